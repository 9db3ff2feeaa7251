-- Written by own_print.py of this session's repo over the kit's print (its output, turned at some places).
import Derived.Test.YtdpmpoakjhhaaaaDoorQFnStripsx0
import Derived.Test.YtdpmpoakjhhaaaaDoorQFnStripsx3
import Derived.Test.YtdpmpoakjhhaaaaDoorQFnStripsx5
namespace Go.Proofs.YtdpmpoakjhhaaaaDoor.QFnStrips
open Go.RowKit Go.Proofs.YtdpmpoakjhhaaaaDoorW.PrintWords Go.Proofs.YtdpmpoakjhhaaaaDoorW.PrintLast Go.Proofs.YtdpmpoakjhhaaaaDoorW.PrintMore
attribute [local go_sem] max2_int min2_int max_two min_two max_three min_three max_four min_four   -- for this text's walks alone
set_option linter.unusedVariables false
set_option linter.unusedSimpArgs false

/-! ### slices_Equal_int64_int64: function 30 -/
def slices_Equal_int64_int64.l0 : Nat → List Int → List Int → Int → Int → Option (Bool)
  | 0, _, _, _, _ => none
  | k + 1, x0, x1, x12, x13 => if x13 < x12 then (if 0 ≤ x13 then (if x13 < (x0.length : Int) then (if x13 < (x1.length : Int) then (if (rd x0 x13) = (rd x1 x13) then (slices_Equal_int64_int64.l0 k x0 x1 x12 (wrap64 (x13 + 1))) else (some false)) else (none)) else (none)) else (none)) else (some true)
def slices_Equal_int64_int64.f (k : Nat) (l0 : List Int) (l1 : List Int) : Option (Bool) := if (l0.length : Int) = (l1.length : Int) then (slices_Equal_int64_int64.l0 k l0 l1 (l0.length : Int) 0) else (some false)
theorem slices_Equal_int64_int64.mono_l : ∀ k, (∀ y0 y1 y2 y3, LeO (slices_Equal_int64_int64.l0 k y0 y1 y2 y3) (slices_Equal_int64_int64.l0 (k + 1) y0 y1 y2 y3))
  | 0 => fun _ _ _ _ r h => by simp [slices_Equal_int64_int64.l0] at h
  | k + 1 => by
    have ih0 := slices_Equal_int64_int64.mono_l k
    · intro y0 y1 y2 y3
      unfold slices_Equal_int64_int64.l0
      repeat' first
      | (with_reducible exact ih0 _ _ _ _)
      | (with_reducible exact LeO.refl _)
      | (with_reducible exact LeO.none _)
      | (with_reducible refine LeO.ite ?_ ?_)
      | (with_reducible refine LeO.bind ?_ (fun _ => ?_))
      | exact ih0 _ _ _ _
      | exact LeO.none _
      | refine LeO.ite ?_ ?_
      | refine LeO.bind ?_ (fun _ => ?_)
theorem slices_Equal_int64_int64.mono : ∀ a0 a1 k, LeO (slices_Equal_int64_int64.f k a0 a1) (slices_Equal_int64_int64.f (k + 1) a0 a1) := by
  intro a0 a1 k
  have ih0 := slices_Equal_int64_int64.mono_l k
  unfold slices_Equal_int64_int64.f
  repeat' first
      | (with_reducible exact ih0 _ _ _ _)
      | (with_reducible exact LeO.refl _)
      | (with_reducible exact LeO.none _)
      | (with_reducible refine LeO.ite ?_ ?_)
      | (with_reducible refine LeO.bind ?_ (fun _ => ?_))
      | exact ih0 _ _ _ _
      | exact LeO.none _
      | refine LeO.ite ?_ ?_
      | refine LeO.bind ?_ (fun _ => ?_)
set_option maxHeartbeats 8000000 in
set_option maxRecDepth 100000 in
theorem slices_Equal_int64_int64.calls (k : Nat) (A0 : Option Addr) (c0 : Nat) (l0 : List Int) (A1 : Option Addr) (c1 : Nat) (l1 : List Int) (r : Bool) (w : World) (hr0 : Kd.C (Kd.int .i64) w A0 l0.length l0) (hc0 : l0.length ≤ c0) (hr1 : Kd.C (Kd.int .i64) w A1 l1.length l1) (hc1 : l1.length ≤ c1) (h : slices_Equal_int64_int64.f k l0 l1 = some r) :
    Calls Tryd.prog 30 #[.slice A0 l0.length c0, .slice A1 l1.length c1] w fun e w' => e = .returned (.bool r) ∧ Drawn0 w w' := by
  have HR0 := Aside0.mk hr0
  have HC0 := Aside0.mk hc0
  clear hr0 hc0
  have HR1 := Aside0.mk hr1
  have HC1 := Aside0.mk hc1
  clear hr1 hc1
  have H : (if (l0.length : Int) = (l1.length : Int) then (slices_Equal_int64_int64.l0 k l0 l1 (l0.length : Int) 0) else (some false)) = some r := h
  clear h
  by_cases c3 : (l0.length : Int) = (l1.length : Int)
  · rw [if_pos c3] at H
    have c3b0 : ((l0.length : Int) == (l1.length : Int)) = true := beq_iff_eq.mpr c3
    have c3b1 : ((l0.length : Int) != (l1.length : Int)) = false := bne_eq_false_iff_eq.mpr c3
    have c3b2 : (l0.length == l1.length) = true := by first | simpa using c3 | (simp at c3 ⊢; omega)
    clear c3
    have H' := Aside0.mk H
    clear H
    go_enter Tryd.func30, Tryd.ntmps30
    go_wp2
    repeat (go_quiet (fail); try go_wp2)
    go_loopg [13] k (fun kq v13 w' => ∃ (x13_1 : Int), v13 = .int .i64 x13_1 ∧ Aside0 (slices_Equal_int64_int64.l0 kq l0 l1 (l0.length : Int) x13_1 = some r) ∧ Aside0 (kq ≤ k) ∧ Drawn0 w w')
    case atStart => exact ⟨(0), (by first | rfl | (simp; done) | (simp [*]; done)), H', ⟨Nat.le_refl _⟩, by repeat (first | exact Drawn0.refl _ | apply Drawn0.step)⟩
    case round =>
      clear H'
      try clear c1
      try clear p2
      try clear c3
      try clear c3b0
      try clear c3b1
      try clear c3b2
      obtain ⟨x13_1, rfl, HA, HK1, ⟨m1, rfl⟩⟩ := hrel
      cases gk with
      | zero => exact absurd HA.out (by simp [slices_Equal_int64_int64.l0])
      | succ k1 =>
        have H := HA.out
        clear HA
        simp only [slices_Equal_int64_int64.l0] at H
        by_cases c4 : x13_1 < (l0.length : Int)
        · rw [if_pos c4] at H
          have c4b0 : decide (x13_1 < (l0.length : Int)) = true := decide_eq_true c4
          clear c4
          by_cases c5 : 0 ≤ x13_1
          · rw [if_pos c5] at H
            have c5b0 : decide (0 ≤ x13_1) = true := decide_eq_true c5
            clear c5
            by_cases c6 : x13_1 < (l0.length : Int)
            · rw [if_pos c6] at H
              have c6b0 : decide (x13_1 < (l0.length : Int)) = true := decide_eq_true c6
              clear c6
              by_cases c7 : x13_1 < (l1.length : Int)
              · rw [if_pos c7] at H
                have c7b0 : decide (x13_1 < (l1.length : Int)) = true := decide_eq_true c7
                clear c7
                by_cases c8 : (rd l0 x13_1) = (rd l1 x13_1)
                · rw [if_pos c8] at H
                  have c8b0 : ((rd l0 x13_1) == (rd l1 x13_1)) = true := beq_iff_eq.mpr c8
                  have c8b1 : ((rd l0 x13_1) != (rd l1 x13_1)) = false := bne_eq_false_iff_eq.mpr c8
                  clear c8
                  have H' := Aside0.mk H
                  clear H
                  have p311 : 0 ≤ (x13_1 : Int) := of_decide_eq_true (by first | (with_reducible assumption) | assumption)
                  have q311 : x13_1 < (l0.length : Int) := of_decide_eq_true (by first | (with_reducible assumption) | assumption)
                  obtain ⟨ad311, e311, hx311_0⟩ := Kd.at_int HR0.out x13_1 p311 q311
                  cases e311
                  replace p311 := eq_true p311
                  replace q311 := eq_true q311
                  have p312 : 0 ≤ (x13_1 : Int) := of_decide_eq_true (by first | (with_reducible assumption) | assumption)
                  have q312 : x13_1 < (l1.length : Int) := of_decide_eq_true (by first | (with_reducible assumption) | assumption)
                  obtain ⟨ad312, e312, hx312_0⟩ := Kd.at_int HR1.out x13_1 p312 q312
                  cases e312
                  replace p312 := eq_true p312
                  replace q312 := eq_true q312
                  go_wp2
                  repeat (go_quiet (fail); try go_wp2)
                  go_roundg k1
                  case measure => have := HK1.out; omega
                  case rel => exact ⟨(wrap64 (x13_1 + 1)), (by first | rfl | (simp; done) | (simp [*]; done)), H', ⟨by have := HK1.out; omega⟩, by repeat (first | exact Drawn0.refl _ | apply Drawn0.step)⟩
                · rw [if_neg c8] at H
                  have c8b0 : ((rd l0 x13_1) == (rd l1 x13_1)) = false := beq_eq_false_iff_ne.mpr c8
                  have c8b1 : ((rd l0 x13_1) != (rd l1 x13_1)) = true := bne_iff_ne.mpr c8
                  obtain rfl := Option.some.inj H
                  have p311 : 0 ≤ (x13_1 : Int) := of_decide_eq_true (by first | (with_reducible assumption) | assumption)
                  have q311 : x13_1 < (l0.length : Int) := of_decide_eq_true (by first | (with_reducible assumption) | assumption)
                  obtain ⟨ad311, e311, hx311_0⟩ := Kd.at_int HR0.out x13_1 p311 q311
                  cases e311
                  replace p311 := eq_true p311
                  replace q311 := eq_true q311
                  have p312 : 0 ≤ (x13_1 : Int) := of_decide_eq_true (by first | (with_reducible assumption) | assumption)
                  have q312 : x13_1 < (l1.length : Int) := of_decide_eq_true (by first | (with_reducible assumption) | assumption)
                  obtain ⟨ad312, e312, hx312_0⟩ := Kd.at_int HR1.out x13_1 p312 q312
                  cases e312
                  replace p312 := eq_true p312
                  replace q312 := eq_true q312
                  go_wp2
                  repeat (go_quiet (fail); try go_wp2)
                  go_ret
                  exact ⟨by first | rfl | (simp only [Go.IntWalk.i64_left]; first | done | rfl) | (simp; done) | (simp [*]; done), by repeat (first | exact Drawn0.refl _ | apply Drawn0.step)⟩
              · rw [if_neg c7] at H
                exact absurd H (by simp)
            · rw [if_neg c6] at H
              exact absurd H (by simp)
          · rw [if_neg c5] at H
            exact absurd H (by simp)
        · rw [if_neg c4] at H
          have c4b0 : decide (x13_1 < (l0.length : Int)) = false := decide_eq_false c4
          clear c4
          obtain rfl := Option.some.inj H
          go_wp2
          repeat (go_quiet (fail); try go_wp2)
          go_ret
          exact ⟨by first | rfl | (simp only [Go.IntWalk.i64_left]; first | done | rfl) | (simp; done) | (simp [*]; done), by repeat (first | exact Drawn0.refl _ | apply Drawn0.step)⟩
  · rw [if_neg c3] at H
    have c3b0 : ((l0.length : Int) == (l1.length : Int)) = false := beq_eq_false_iff_ne.mpr c3
    have c3b1 : ((l0.length : Int) != (l1.length : Int)) = true := bne_iff_ne.mpr c3
    have c3b2 : (l0.length == l1.length) = false := by first | simpa using c3 | (simp at c3 ⊢; omega)
    obtain rfl := Option.some.inj H
    go_enter Tryd.func30, Tryd.ntmps30
    go_wp2
    repeat (go_quiet (fail); try go_wp2)
    go_ret
    exact ⟨by first | rfl | (simp only [Go.IntWalk.i64_left]; first | done | rfl) | (simp; done) | (simp [*]; done), by repeat (first | exact Drawn0.refl _ | apply Drawn0.step)⟩

-- NOT PRINTED: function 29 (impl_FindFolds_1)

/-! ### impl_FindFolds -/
def af_go (p : ByteArray → Option Bool) : Nat → ByteArray → Option (Bool × ByteArray)
  | 0, d => (p d).bind fun b => some (b, d)
  | n + 1, d => (af_go p n (d ++ (⟨#[76]⟩ : ByteArray))).bind fun r => if r.1 = true then some (true, r.2) else af_go p n (d ++ (⟨#[82]⟩ : ByteArray))
def ff_p (k : Nat) (l : List Int) (s : ByteArray) : Option Bool := (impl_foldStrip.f k s).bind fun r => slices_Equal_int64_int64.f k r.1 l
def ff_k (n : Nat) : Nat := if n ≤ 1 then 0 else if n ≤ 2 then 1 else if n ≤ 4 then 2 else if n ≤ 8 then 3 else if n ≤ 16 then 4 else if n ≤ 32 then 5 else 6
def impl_FindFolds.f (k : Nat) (l0 : List Int) : Option (ByteArray × Int) := (impl_isStack.f k l0).bind fun b => if b = true then (if l0.length ≤ 64 then (if 2 ^ ff_k l0.length = l0.length then ((af_go (ff_p k l0) (ff_k l0.length) (⟨#[]⟩ : ByteArray)).bind fun r => if r.1 = true then some (r.2, 0) else some ((⟨#[]⟩ : ByteArray), 4)) else some ((⟨#[]⟩ : ByteArray), 4)) else none) else some ((⟨#[]⟩ : ByteArray), 1)
theorem af_mono {p q : ByteArray → Option Bool} (h : ∀ d, LeO (p d) (q d)) : ∀ n d, LeO (af_go p n d) (af_go q n d)
  | 0, d => LeO.bind (h d) (fun _ => LeO.refl _)
  | n + 1, d => LeO.bind (af_mono h n _) (fun r => LeO.ite (LeO.refl _) (af_mono h n _))
theorem ff_mono (l : List Int) (k : Nat) (d : ByteArray) : LeO (ff_p k l d) (ff_p (k + 1) l d) := LeO.bind (impl_foldStrip.mono _ _) (fun _ => slices_Equal_int64_int64.mono _ _ _)
theorem impl_FindFolds.mono : ∀ a0 k, LeO (impl_FindFolds.f k a0) (impl_FindFolds.f (k + 1) a0) := by
  intro a0 k
  unfold impl_FindFolds.f
  exact LeO.bind (impl_isStack.mono _ _) (fun _ => LeO.ite (LeO.ite (LeO.ite (LeO.bind (af_mono (fun d => ff_mono a0 k d) _ _) (fun _ => LeO.refl _)) (LeO.refl _)) (LeO.none _)) (LeO.refl _))
def FFInv (w : World) (b1 b2 : Nat) (v : Value) (t : ByteArray) (W : World) : Prop := Below w.heap.size w W ∧ W.heap[b1]? = some (.cells #[v] 25 (0, 0)) ∧ W.heap[b2]? = some (.cells #[.string t] 9 (0, 0)) ∧ b1 ≠ b2 ∧ w.heap.size ≤ b1 ∧ w.heap.size ≤ b2
theorem ff_lt {W : World} {b : Nat} {o : Obj} (h : W.heap[b]? = some o) : b < W.heap.size := (Array.getElem?_eq_some_iff.1 h).1
theorem FFInv.below {w : World} {b1 b2 : Nat} {v : Value} {t : ByteArray} {W W' : World} (h : FFInv w b1 b2 v t W) (hb : Below W.heap.size W W') : FFInv w b1 b2 v t W' := by
  obtain ⟨h1, h2, h3, h4, h5, h6⟩ := h
  exact ⟨h1.trans (hb.mono (below_size h1)), (hb.block _ (ff_lt h2)).trans h2, (hb.block _ (ff_lt h3)).trans h3, h4, h5, h6⟩
theorem FFInv.put {w : World} {b1 b2 : Nat} {v : Value} {t : ByteArray} {W : World} (h : FFInv w b1 b2 v t W) (s : ByteArray) : FFInv w b1 b2 v s (W.setCell ⟨b2, 0, none⟩ (.string s)) := by
  obtain ⟨h1, h2, h3, h4, h5, h6⟩ := h
  exact ⟨below_set h1 h6, blk_far h2 h4 _, blk_set h3 0 _, h4, h5, h6⟩
theorem FFInv.c1 {w : World} {b1 b2 : Nat} {v : Value} {t : ByteArray} {W : World} (h : FFInv w b1 b2 v t W) : W.cell? ⟨b1, 0, none⟩ = some v := by
  rw [Lib.cell_of_heap h.2.1]
  rfl
theorem FFInv.c2 {w : World} {b1 b2 : Nat} {v : Value} {t : ByteArray} {W : World} (h : FFInv w b1 b2 v t W) : W.cell? ⟨b2, 0, none⟩ = some (.string t) ∧ W.frozen? ⟨b2, 0, none⟩ = false := by
  refine ⟨?_, Lib.frozen_of_heap h.2.2.1 0⟩
  rw [Lib.cell_of_heap h.2.2.1]
  rfl
set_option maxHeartbeats 4000000 in
set_option maxRecDepth 100000 in
theorem ff_closure (k : Nat) (A : Option Addr) (c : Nat) (l0 : List Int) (w : World) (hr : Kd.C (Kd.int .i64) w A l0.length l0) (hc : l0.length ≤ c) (b1 b2 : Nat) (s t : ByteArray) (b : Bool) (W : World) (hI : FFInv w b1 b2 (.slice A l0.length c) t W) (h : ff_p k l0 s = some b) :
    Calls Tryd.prog 29 #[.string s, .pointer (some ⟨b2, 0, none⟩), .pointer (some ⟨b1, 0, none⟩)] W fun e W' => e = .returned (.bool b) ∧ FFInv w b1 b2 (.slice A l0.length c) s W' := by
  unfold ff_p at h
  obtain ⟨⟨st, cr⟩, hs, he⟩ := Option.bind_eq_some_iff.1 h
  have HS := Aside0.mk hs
  have HE := Aside0.mk he
  have HI := Aside0.mk hI
  have HR := Aside0.mk hr
  have HC := Aside0.mk hc
  clear h hs he hI hr hc
  go_enter Tryd.func29, Tryd.ntmps29
  go_wp2_with (first | (go_at_call 24; (with_reducible refine (impl_foldStrip.calls k s st cr _ HS.out).mono ?_); rintro e w1 ⟨v3, rfl, hR3, hb3⟩; obtain ⟨A3, c3, rfl⟩ := Kd.R_slice hR3; have HI1 := Aside0.mk (FFInv.below HI.out hb3); obtain ⟨hc2, hf2⟩ := FFInv.c2 HI1.out; have HI2 := Aside0.mk (FFInv.put HI1.out s); have hc1 := FFInv.c1 HI2.out; have HR3 := Aside0.mk (Kd.R_reads' (Kd.R_far (Kd.R_bound hR3) (p := ⟨b2, 0, none⟩) (fun k_ hk_ he_ => by have h1_ := ff_lt HI.out.2.2.1; have h2_ := hk_.2.1; simp only at he_; omega) (.string s))).2.2; have HC3 := Aside0.mk (Kd.R_reads' hR3).2.1; have HL3 := Aside0.mk (Kd.C_below HR.out HI2.out.1); clear hb3 hR3) | (go_at_call 30; (with_reducible refine (slices_Equal_int64_int64.calls k A3 c3 st A c l0 b _ HR3.out HC3.out HL3.out HC.out HE.out).mono ?_); rintro e w2 ⟨rfl, ⟨nd, rfl⟩⟩))
  go_ret
  exact ⟨rfl, FFInv.below HI2.out (pw_below_drewN (Below.refl _ _) _)⟩
set_option maxHeartbeats 4000000 in
set_option maxRecDepth 100000 in
theorem af_calls (k : Nat) (A : Option Addr) (c : Nat) (l0 : List Int) (w : World) (hr : Kd.C (Kd.int .i64) w A l0.length l0) (hc : l0.length ≤ c) (b1 b2 : Nat) : ∀ (n : Nat) (d t : ByteArray) (r : Bool × ByteArray) (W : World), d.size + n ≤ 64 → FFInv w b1 b2 (.slice A l0.length c) t W → af_go (ff_p k l0) n d = some r →
    Calls Tryd.prog 28 #[.int .i64 (n : Int), .string d, .func (.func 29) #[] #[.pointer (some ⟨b2, 0, none⟩), .pointer (some ⟨b1, 0, none⟩)]] W fun e W' => e = .returned (.bool r.1) ∧ FFInv w b1 b2 (.slice A l0.length c) r.2 W' := by
  intro n
  induction n with
  | zero =>
    intro d t r W hs hI h
    rw [af_go] at h
    obtain ⟨b, hb, h⟩ := Option.bind_eq_some_iff.1 h
    injection h with h
    subst h
    have HB := Aside0.mk hb
    have HI := Aside0.mk hI
    have HR := Aside0.mk hr
    have HC := Aside0.mk hc
    clear hb hI hr hc
    go_enter Tryd.func28, Tryd.ntmps28
    go_wp2_with fail
    refine (ff_closure k A c l0 w HR.out HC.out b1 b2 d t b _ HI.out HB.out).mono ?_
    rintro e w1 ⟨rfl, hI1⟩
    have HI1 := Aside0.mk hI1
    clear hI1
    go_wp2
    go_ret
    exact ⟨rfl, HI1.out⟩
  | succ n ih =>
    intro d t r W hs hI h
    rw [af_go] at h
    obtain ⟨⟨x, y⟩, h1, h⟩ := Option.bind_eq_some_iff.1 h
    have HIH := Aside0.mk ih
    have H1 := Aside0.mk h1
    have HI := Aside0.mk hI
    have HZ := Aside0.mk hs
    have n1 : (((n + 1 : Nat) : Int) == 0) = false := by rw [beq_eq_false_iff_ne]; omega
    have n2 : wrap64 (((n + 1 : Nat) : Int) - 1) = (n : Int) := by unfold wrap64; omega
    have n3 : IntKind.i64.wrap (((n + 1 : Nat) : Int) - 1) = (n : Int) := (i64_w _).trans n2
    have n4 : (9223372036854775807 < d.size + 1) = False := eq_false (by omega)
    have n5 : decide (d.size + 1 ≤ 9223372036854775807) = true := decide_eq_true (by omega)
    have n6 : (((n : Int) + 1) == 0) = false := by rw [beq_eq_false_iff_ne]; omega
    have n7 : wrap64 ((n : Int) + 1 - 1) = (n : Int) := by unfold wrap64; omega
    have n8 : wrap64 (n : Int) = (n : Int) := by unfold wrap64; omega
    clear ih h1 hI hs hr hc
    cases x with
    | true =>
      rw [if_pos rfl] at h
      injection h with h
      subst h
      go_enter Tryd.func28, Tryd.ntmps28
      go_wp2_with (go_at_call 28; (with_reducible refine (HIH.out (d ++ (⟨#[76]⟩ : ByteArray)) t (true, y) _ ?z1 HI.out H1.out).mono ?_); (case z1 => have := HZ.out; rw [ByteArray.size_append]; show d.size + 1 + n ≤ 64; omega); rintro e w1 ⟨rfl, hI1⟩; have HI1 := Aside0.mk hI1; clear hI1)
      go_ret
      exact ⟨rfl, HI1.out⟩
    | false =>
      rw [if_neg (by simp)] at h
      have H2 := Aside0.mk h
      clear h
      go_enter Tryd.func28, Tryd.ntmps28
      go_wp2_with (first | (go_at_call 28; (with_reducible refine (HIH.out (d ++ (⟨#[76]⟩ : ByteArray)) t (false, y) _ ?z1 HI.out H1.out).mono ?_); (case z1 => have := HZ.out; rw [ByteArray.size_append]; show d.size + 1 + n ≤ 64; omega); rintro e w1 ⟨rfl, hI1⟩; have HI1 := Aside0.mk hI1; clear hI1) | (go_at_call 28; (with_reducible refine (HIH.out (d ++ (⟨#[82]⟩ : ByteArray)) y r _ ?z1 HI1.out H2.out).mono ?_); (case z1 => have := HZ.out; rw [ByteArray.size_append]; show d.size + 1 + n ≤ 64; omega); rintro e w2 ⟨rfl, hI2⟩; have HI2 := Aside0.mk hI2; clear hI2))
      go_ret
      exact ⟨rfl, HI2.out⟩
theorem ff_lo (n j K : Nat) (P : Int) (h1 : n ≤ 2 ^ K) (h2 : j ≤ K) (h3 : P = ((2 ^ j : Nat) : Int)) (h4 : P < (n : Int)) : j < K := by
  rcases Nat.lt_or_ge j K with h | h
  · exact h
  · exfalso
    have he : j = K := by omega
    subst he
    generalize 2 ^ j = m at h1 h3
    omega
theorem ff_hi (n j : Nat) (P : Int) (h3 : P = ((2 ^ j : Nat) : Int)) (h4 : ¬ P < (n : Int)) (h5 : 2 ^ j < n) : False := by
  generalize 2 ^ j = m at h5 h3
  omega
theorem ffk_fin : ∀ n : Fin 65, ff_k n.val ≤ 6 ∧ (n.val ≤ 2 ^ ff_k n.val) ∧ ∀ j : Fin 7, j.val < ff_k n.val → 2 ^ j.val < n.val := by decide +kernel
theorem pow_fin : ∀ j : Fin 7, (1 : Int) ≤ 2 ^ j.val ∧ (2 : Int) ^ j.val ≤ 64 ∧ (2 : Int) ^ j.val = ((2 ^ j.val : Nat) : Int) ∧ min j.val 64 = j.val := by decide +kernel
set_option maxHeartbeats 8000000 in
set_option maxRecDepth 100000 in
theorem impl_FindFolds.calls (k : Nat) (A0 : Option Addr) (c0 : Nat) (l0 : List Int) (r1 : ByteArray) (r2 : Int) (w : World) (hr0 : Kd.C (Kd.int .i64) w A0 l0.length l0) (hc0 : l0.length ≤ c0) (h : impl_FindFolds.f k l0 = some (r1, r2)) :
    Calls Tryd.prog 10 #[.slice A0 l0.length c0] w fun e w' => e = .returned (.tuple #[.string r1, .int .i64 r2]) ∧ Below w.heap.size w w' := by
  unfold impl_FindFolds.f at h
  obtain ⟨b, hb, h⟩ := Option.bind_eq_some_iff.1 h
  have HS := Aside0.mk hb
  have HR := Aside0.mk hr0
  have HC := Aside0.mk hc0
  clear hb hr0 hc0
  have hmf : ∀ (fn : Fn) (first cap : Array Value) (w : World), (Instr.makeFunc fn first cap).run Tryd.prog w = .ok (.func fn first cap) w := fun _ _ _ _ => rfl
  have hbox : ∀ (o : Obj) (w1 : World), Below (w.alloc o).heap.size (w.alloc o) w1 → Below w.heap.size w w1 := fun o w1 hb => ((Below.refl _ _).alloc (Nat.le_refl _) o).trans (hb.mono (by simp))
  have hblk : ∀ (w1 : World), Below (w.alloc (.cells #[(.slice A0 l0.length c0)] 25)).heap.size (w.alloc (.cells #[(.slice A0 l0.length c0)] 25)) w1 → w1.heap[w.heap.size]? = some (.cells #[(.slice A0 l0.length c0)] 25 (0, 0)) := fun w1 hb => (hb.block _ (by simp)).trans (heap_alloc_new _ _)
  cases b with
  | false =>
    rw [if_neg (by simp)] at h
    injection h with h
    injection h with e1 e2
    subst e1 e2
    go_enter Tryd.func10, Tryd.ntmps10
    go_wp2_with (go_at_call 27; (with_reducible refine (impl_isStack.calls k A0 c0 l0 false _ ?q1 HC.out HS.out).mono ?_); (case q1 => exact Kd.C_alloc HR.out _); rintro e w1 ⟨rfl, hb1⟩; have HB1 := Aside0.mk (hbox _ _ hb1); clear hb1)
    go_ret2
    exact ⟨rfl, HB1.out⟩
  | true =>
    rw [if_pos rfl] at h
    by_cases c64 : l0.length ≤ 64
    · rw [if_pos c64] at h
      obtain ⟨f1, f2, f3⟩ := ffk_fin ⟨l0.length, by omega⟩
      simp only at f1 f2 f3
      have H := Aside0.mk h
      have F1 := Aside0.mk f1
      have F3 := Aside0.mk f3
      have F2 := Aside0.mk f2
      clear h f1 f2 f3
      go_enter Tryd.func10, Tryd.ntmps10
      go_wp2_with (go_at_call 27; (with_reducible refine (impl_isStack.calls k A0 c0 l0 true _ ?q1 HC.out HS.out).mono ?_); (case q1 => exact Kd.C_alloc HR.out _); rintro e w1 ⟨rfl, hb1⟩; have HB1 := Aside0.mk (hbox _ _ hb1); have HK1 := Aside0.mk (hblk _ hb1); clear hb1)
      obtain ⟨b2, hb2⟩ : ∃ b2 : Nat, w1.heap.size = b2 := ⟨_, rfl⟩
      have HI0 := Aside0.mk (show FFInv w w.heap.size w1.heap.size (.slice A0 l0.length c0) (⟨#[]⟩ : ByteArray) (w1.alloc (.cells #[.string (⟨#[]⟩ : ByteArray)] 9)) from ⟨HB1.out.alloc (below_size HB1.out) _, (Lib.alloc_old _ _ _ (ff_lt HK1.out)).trans HK1.out, heap_alloc_new _ _, by have := ff_lt HK1.out; omega, Nat.le_refl _, below_size HB1.out⟩)
      rw [hb2] at HI0 ⊢
      generalize w1.alloc (.cells #[.string (⟨#[]⟩ : ByteArray)] 9) = w2 at HI0 ⊢
      go_loopg [4] (ff_k l0.length + 1) (fun kq v4 w' => ∃ j : Nat, v4 = .int .i64 (j : Int) ∧ Aside0 (j + kq = ff_k l0.length + 1 ∧ j ≤ ff_k l0.length) ∧ Aside0 (FFInv w w.heap.size b2 (.slice A0 l0.length c0) (⟨#[]⟩ : ByteArray) w'))
      case atStart => exact ⟨0, rfl, ⟨by omega, by omega⟩, HI0⟩
      case round =>
        clear HI0
        obtain ⟨j, rfl, HJ, HI⟩ := hrel
        cases gk with
        | zero => exact absurd HJ.out (fun h => by omega)
        | succ k1 =>
          obtain ⟨p1, p2, p3, p4⟩ := pow_fin ⟨j, by have := HJ.out; have := F1.out; omega⟩
          simp only at p1 p2 p3 p4
          obtain ⟨P, hP⟩ : ∃ P : Int, (2 : Int) ^ j = P := ⟨_, rfl⟩
          rw [hP] at p1 p2 p3
          have s1 : wrap64 (2 ^ min j 64) = P := by rw [p4, hP]; unfold wrap64; omega
          have s2 : IntKind.i64.wrap (2 ^ min j 64) = P := (i64_w _).trans s1
          have s3 : IntKind.i64.wrap (1 * 2 ^ min j 64) = P := by rw [Int.one_mul]; exact s2
          have s4 : wrap64 (1 * 2 ^ min j 64) = P := by rw [Int.one_mul]; exact s1
          have s5 : shl .i64 1 (j : Int) = P := s3
          have s6 : IntKind.i64.wrap (1 * 2 ^ min (j : Int).toNat 64) = P := s3
          have s7 : IntKind.i64.wrap (2 ^ min (j : Int).toNat 64) = P := s2
          have s8 : wrap64 (2 ^ min (j : Int).toNat 64) = P := s1
          have s9 : wrap64 ((j : Int) + 1) = ((j + 1 : Nat) : Int) := by have := HJ.out; have := F1.out; unfold wrap64; omega
          have s10 : IntKind.i64.wrap ((j : Int) + 1) = ((j + 1 : Nat) : Int) := (i64_w _).trans s9
          have HP3 := Aside0.mk p3
          clear p1 p2 p3 p4 hP
          by_cases hj : P < (l0.length : Int)
          · have d1 : decide (P < (l0.length : Int)) = true := decide_eq_true hj
            have hjK : j < ff_k l0.length := ff_lo _ _ _ _ F2.out HJ.out.2 HP3.out hj
            have HK := Aside0.mk hjK
            clear hj hjK
            go_wp2
            refine start_ (n := 5) (S := fun w' => w'.cell? ⟨w.heap.size, 0, none⟩ = some (.slice A0 l0.length c0)) (ds := []) #[false, false, false, false, false] (by kernel_rfl) rfl rfl (FFInv.c1 (FFInv.below HI.out (Below.refl _ _).drew)) (fun hHeld => ?_)
            generalize hW_ : wr.drew = wq at hHeld ⊢
            have HI_wq := Aside0.mk (show FFInv w w.heap.size b2 (.slice A0 l0.length c0) (⟨#[]⟩ : ByteArray) wq by rw [← hW_]; exact FFInv.below HI.out (Below.refl _ _).drew)
            clear hW_
            refine pure_ (i := 0) (N := some 9) (v := ?_) (a' := ?_) #[true, false, false, false, false] rfl rfl (by kernel_rfl) (fun _ _ _ h => h) (Or.inl ⟨by rfl, ?_⟩) ?_ ?_
            rotate_left
            · intro w'
              go_simp
              with_reducible rfl
            rotate_left
            · simp only [Act.put, List.setIfInBounds_toArray, List.set_cons_zero, List.set_cons_succ, i64_w, i32_w]
              rfl
            refine pure_ (i := 1) (N := some 10) (v := ?_) (a' := ?_) #[true, true, false, false, false] rfl rfl (by kernel_rfl) (fun _ _ _ h => h) (Or.inl ⟨by rfl, ?_⟩) ?_ ?_
            rotate_left
            · intro w'
              go_simp
              with_reducible rfl
            rotate_left
            · simp only [Act.put, List.setIfInBounds_toArray, List.set_cons_zero, List.set_cons_succ, i64_w, i32_w]
              rfl
            refine take_ (i := 2) (N := some 11) (v := ?_) (a' := ?_) #[true, true, true, false, false] rfl rfl (by kernel_rfl) (fun _ _ _ h => h) (Or.inl ⟨by rfl, ?_⟩) hHeld ?_ ?_
            rotate_left
            · intro w' s0
              go_simp
              with_reducible rfl
            rotate_left
            · simp only [Act.put, List.setIfInBounds_toArray, List.set_cons_zero, List.set_cons_succ, i64_w, i32_w]
              rfl
            refine pure_ (i := 3) (N := some 12) (v := ?_) (a' := ?_) #[true, true, true, true, false] rfl rfl (by kernel_rfl) (fun _ _ _ h => h) (Or.inl ⟨by rfl, ?_⟩) ?_ ?_
            rotate_left
            · intro w'
              go_simp
              with_reducible rfl
            rotate_left
            · simp only [Act.put, List.setIfInBounds_toArray, List.set_cons_zero, List.set_cons_succ, i64_w, i32_w]
              rfl
            refine pure_ (i := 4) (N := some 13) (v := ?_) (a' := ?_) #[true, true, true, true, true] rfl rfl (by kernel_rfl) (fun _ _ _ h => h) (Or.inl ⟨by rfl, ?_⟩) ?_ ?_
            rotate_left
            · intro w'
              go_simp
              with_reducible rfl
            rotate_left
            · simp only [Act.put, List.setIfInBounds_toArray, List.set_cons_zero, List.set_cons_succ, i64_w, i32_w]
              rfl
            refine done_ (by kernel_rfl) ?_
            go_wp2
            go_roundg k1
            case measure => omega
            case rel => exact ⟨j + 1, by go_num, ⟨by have := HJ.out; have := HK.out; omega, by have := HK.out; omega⟩, HI_wq⟩
          · have d1 : decide (P < (l0.length : Int)) = false := decide_eq_false hj
            have hjK : j = ff_k l0.length := by
              have h2 := HJ.out.2
              rcases Nat.lt_or_ge j (ff_k l0.length) with hlt | hge
              · exact (ff_hi _ _ _ HP3.out hj (F3.out ⟨j, Nat.lt_of_lt_of_le hlt (Nat.le_trans F1.out (by decide))⟩ hlt)).elim
              · exact Nat.le_antisymm h2 hge
            have HPE := Aside0.mk (show P = ((2 ^ ff_k l0.length : Nat) : Int) by rw [← hjK]; exact HP3.out)
            have HZ := Aside0.mk (show (⟨#[]⟩ : ByteArray).size + ff_k l0.length ≤ 64 by have := F1.out; show 0 + ff_k l0.length ≤ 64; omega)
            clear hj HJ F2 F3 HP3
            subst hjK
            go_wp2
            refine start_ (n := 5) (S := fun w' => w'.cell? ⟨w.heap.size, 0, none⟩ = some (.slice A0 l0.length c0)) (ds := []) #[false, false, false, false, false] (by kernel_rfl) rfl rfl (FFInv.c1 (FFInv.below HI.out (Below.refl _ _).drew)) (fun hHeld => ?_)
            generalize hW_ : wr.drew = wq at hHeld ⊢
            have HI_wq := Aside0.mk (show FFInv w w.heap.size b2 (.slice A0 l0.length c0) (⟨#[]⟩ : ByteArray) wq by rw [← hW_]; exact FFInv.below HI.out (Below.refl _ _).drew)
            clear hW_
            refine pure_ (i := 0) (N := some 9) (v := ?_) (a' := ?_) #[true, false, false, false, false] rfl rfl (by kernel_rfl) (fun _ _ _ h => h) (Or.inl ⟨by rfl, ?_⟩) ?_ ?_
            rotate_left
            · intro w'
              go_simp
              with_reducible rfl
            rotate_left
            · simp only [Act.put, List.setIfInBounds_toArray, List.set_cons_zero, List.set_cons_succ, i64_w, i32_w]
              rfl
            refine pure_ (i := 1) (N := some 10) (v := ?_) (a' := ?_) #[true, true, false, false, false] rfl rfl (by kernel_rfl) (fun _ _ _ h => h) (Or.inl ⟨by rfl, ?_⟩) ?_ ?_
            rotate_left
            · intro w'
              go_simp
              with_reducible rfl
            rotate_left
            · simp only [Act.put, List.setIfInBounds_toArray, List.set_cons_zero, List.set_cons_succ, i64_w, i32_w]
              rfl
            refine take_ (i := 2) (N := some 11) (v := ?_) (a' := ?_) #[true, true, true, false, false] rfl rfl (by kernel_rfl) (fun _ _ _ h => h) (Or.inl ⟨by rfl, ?_⟩) hHeld ?_ ?_
            rotate_left
            · intro w' s0
              go_simp
              with_reducible rfl
            rotate_left
            · simp only [Act.put, List.setIfInBounds_toArray, List.set_cons_zero, List.set_cons_succ, i64_w, i32_w]
              rfl
            refine pure_ (i := 3) (N := some 12) (v := ?_) (a' := ?_) #[true, true, true, true, false] rfl rfl (by kernel_rfl) (fun _ _ _ h => h) (Or.inl ⟨by rfl, ?_⟩) ?_ ?_
            rotate_left
            · intro w'
              go_simp
              with_reducible rfl
            rotate_left
            · simp only [Act.put, List.setIfInBounds_toArray, List.set_cons_zero, List.set_cons_succ, i64_w, i32_w]
              rfl
            refine pure_ (i := 4) (N := some 13) (v := ?_) (a' := ?_) #[true, true, true, true, true] rfl rfl (by kernel_rfl) (fun _ _ _ h => h) (Or.inl ⟨by rfl, ?_⟩) ?_ ?_
            rotate_left
            · intro w'
              go_simp
              with_reducible rfl
            rotate_left
            · simp only [Act.put, List.setIfInBounds_toArray, List.set_cons_zero, List.set_cons_succ, i64_w, i32_w]
              rfl
            refine done_ (by kernel_rfl) ?_
            go_wp2
            have h := H.out
            clear H
            by_cases he : 2 ^ ff_k l0.length = l0.length
            · rw [if_pos he] at h
              have d2 : (P == (l0.length : Int)) = true := by rw [HPE.out, he]; exact beq_self_eq_true _
              have d3 : (P != (l0.length : Int)) = false := by rw [HPE.out, he]; exact bne_self_eq_false _
              obtain ⟨⟨x, y⟩, hg, h⟩ := Option.bind_eq_some_iff.1 h
              have HG := Aside0.mk hg
              clear hg he
              go_wp2
              refine start_ (n := 11) (S := fun w' => w'.cell? ⟨w.heap.size, 0, none⟩ = some (.slice A0 l0.length c0)) (ds := []) #[false, false, false, false, false, false, false, false, false, false, false] (by kernel_rfl) rfl rfl (FFInv.c1 (FFInv.below HI_wq.out (Below.refl _ _).drew)) (fun hHeld => ?_)
              generalize hW_ : wq.drew = wz at hHeld ⊢
              have HI_wz := Aside0.mk (show FFInv w w.heap.size b2 (.slice A0 l0.length c0) (⟨#[]⟩ : ByteArray) wz by rw [← hW_]; exact FFInv.below HI_wq.out (Below.refl _ _).drew)
              clear hW_
              refine pure_ (i := 0) (N := some 16) (v := ?_) (a' := ?_) #[true, false, false, false, false, false, false, false, false, false, false] rfl rfl (by kernel_rfl) (fun _ _ _ h => h) (Or.inl ⟨by rfl, ?_⟩) ?_ ?_
              rotate_left
              · intro w'
                go_simp
                with_reducible rfl
              rotate_left
              · simp only [Act.put, List.setIfInBounds_toArray, List.set_cons_zero, List.set_cons_succ, i64_w, i32_w]
                rfl
              refine pure_ (i := 1) (N := some 17) (v := ?_) (a' := ?_) #[true, true, false, false, false, false, false, false, false, false, false] rfl rfl (by kernel_rfl) (fun _ _ _ h => h) (Or.inl ⟨by rfl, ?_⟩) ?_ ?_
              rotate_left
              · intro w'
                go_simp
                with_reducible rfl
              rotate_left
              · simp only [Act.put, List.setIfInBounds_toArray, List.set_cons_zero, List.set_cons_succ, i64_w, i32_w]
                rfl
              refine take_ (i := 2) (N := some 18) (v := ?_) (a' := ?_) #[true, true, true, false, false, false, false, false, false, false, false] rfl rfl (by kernel_rfl) (fun _ _ _ h => h) (Or.inl ⟨by rfl, ?_⟩) hHeld ?_ ?_
              rotate_left
              · intro w' s0
                go_simp
                with_reducible rfl
              rotate_left
              · simp only [Act.put, List.setIfInBounds_toArray, List.set_cons_zero, List.set_cons_succ, i64_w, i32_w]
                rfl
              refine pure_ (i := 3) (N := some 19) (v := ?_) (a' := ?_) #[true, true, true, true, false, false, false, false, false, false, false] rfl rfl (by kernel_rfl) (fun _ _ _ h => h) (Or.inl ⟨by rfl, ?_⟩) ?_ ?_
              rotate_left
              · intro w'
                go_simp
                with_reducible rfl
              rotate_left
              · simp only [Act.put, List.setIfInBounds_toArray, List.set_cons_zero, List.set_cons_succ, i64_w, i32_w]
                rfl
              refine pure_ (i := 4) (N := some 20) (v := ?_) (a' := ?_) #[true, true, true, true, true, false, false, false, false, false, false] rfl rfl (by kernel_rfl) (fun _ _ _ h => h) (Or.inl ⟨by rfl, ?_⟩) ?_ ?_
              rotate_left
              · intro w'
                go_simp
                with_reducible rfl
              rotate_left
              · simp only [Act.put, List.setIfInBounds_toArray, List.set_cons_zero, List.set_cons_succ, i64_w, i32_w]
                rfl
              refine pure_ (i := 5) (N := some 21) (v := ?_) (a' := ?_) #[true, true, true, true, true, true, false, false, false, false, false] rfl rfl (by kernel_rfl) (fun _ _ _ h => h) (Or.inl ⟨by rfl, ?_⟩) ?_ ?_
              rotate_left
              · intro w'
                go_simp
                with_reducible rfl
              rotate_left
              · simp only [Act.put, List.setIfInBounds_toArray, List.set_cons_zero, List.set_cons_succ, i64_w, i32_w]
                rfl
              refine pure_ (i := 6) (N := some 22) (v := ?_) (a' := ?_) #[true, true, true, true, true, true, true, false, false, false, false] rfl rfl (by kernel_rfl) (fun _ _ _ h => h) (Or.inl ⟨by rfl, ?_⟩) ?_ ?_
              rotate_left
              · intro w'
                go_simp
                with_reducible rfl
              rotate_left
              · simp only [Act.put, List.setIfInBounds_toArray, List.set_cons_zero, List.set_cons_succ, i64_w, i32_w]
                rfl
              refine pure_ (i := 7) (N := some 23) (v := ?_) (a' := ?_) #[true, true, true, true, true, true, true, true, false, false, false] rfl rfl (by kernel_rfl) (fun _ _ _ h => h) (Or.inl ⟨by rfl, ?_⟩) ?_ ?_
              rotate_left
              · intro w'
                go_simp
                with_reducible rfl
              rotate_left
              · simp only [Act.put, List.setIfInBounds_toArray, List.set_cons_zero, List.set_cons_succ, i64_w, i32_w]
                rfl
              refine one_ (i := 8) (N := some 24) #[true, true, true, true, true, true, true, true, true, false, false] rfl rfl (by kernel_rfl) (by decide) (fun K hK => ?_)
              refine goes_ Tryd.func28 (by kernel_rfl) rfl #[.int .i64 ((ff_k l0.length : Nat) : Int), .string (⟨#[]⟩ : ByteArray), .func (.func 29) #[] #[.pointer (some ⟨b2, 0, none⟩), .pointer (some ⟨w.heap.size, 0, none⟩)]] (by rfl) rfl rfl (by (try simp only [List.map_toArray, List.map_cons, List.map_nil]); first | done | rfl) ?_
              with_reducible refine (af_calls k A0 c0 l0 w HR.out HC.out w.heap.size b2 (ff_k l0.length) (⟨#[]⟩ : ByteArray) (⟨#[]⟩ : ByteArray) (x, y) _ HZ.out HI_wz.out HG.out).mono ?_
              rintro e wf ⟨rfl, hIf⟩
              have HIf := Aside0.mk hIf
              have hcf := FFInv.c1 hIf
              obtain ⟨hcf2, _⟩ := FFInv.c2 hIf
              clear hIf
              refine ⟨_, rfl, ?_⟩
              refine hK.out _ _ hcf (fun hHeld => ?_)
              clear hK K
              refine norm_ (a' := ?_) ?_ ?_
              rotate_left
              · show Act.put _ (some 24) _ = _
                simp only [Act.put, List.setIfInBounds_toArray, List.set_cons_zero, List.set_cons_succ, i64_w, i32_w]
                rfl
              refine pure_ (i := 9) (N := some 25) (v := ?_) (a' := ?_) #[true, true, true, true, true, true, true, true, true, true, false] rfl rfl (by kernel_rfl) (fun _ _ _ h => h) (Or.inl ⟨by rfl, ?_⟩) ?_ ?_
              rotate_left
              · intro w'
                go_simp
                with_reducible rfl
              rotate_left
              · simp only [Act.put, List.setIfInBounds_toArray, List.set_cons_zero, List.set_cons_succ, i64_w, i32_w]
                rfl
              refine pure_ (i := 10) (N := some 26) (v := ?_) (a' := ?_) #[true, true, true, true, true, true, true, true, true, true, true] rfl rfl (by kernel_rfl) (fun _ _ _ h => h) (Or.inl ⟨by rfl, ?_⟩) ?_ ?_
              rotate_left
              · intro w'
                go_simp
                with_reducible rfl
              rotate_left
              · simp only [Act.put, List.setIfInBounds_toArray, List.set_cons_zero, List.set_cons_succ, i64_w, i32_w]
                rfl
              refine done_ (by kernel_rfl) ?_
              cases x with
              | true =>
                rw [if_pos rfl] at h
                injection h with h
                injection h with e1 e2
                subst e1 e2
                go_wp2
                go_ret2
                exact ⟨rfl, HIf.out.1⟩
              | false =>
                rw [if_neg (by simp)] at h
                injection h with h
                injection h with e1 e2
                subst e1 e2
                go_wp2
                go_ret2
                exact ⟨rfl, HIf.out.1⟩
            · rw [if_neg he] at h
              injection h with h
              injection h with e1 e2
              subst e1 e2
              have d2 : (P == (l0.length : Int)) = false := by rw [HPE.out, beq_eq_false_iff_ne]; omega
              have d3 : (P != (l0.length : Int)) = true := by rw [HPE.out, bne_iff_ne]; omega
              clear he
              go_wp2
              refine start_ (n := 11) (S := fun w' => w'.cell? ⟨w.heap.size, 0, none⟩ = some (.slice A0 l0.length c0)) (ds := []) #[false, false, false, false, false, false, false, false, false, false, false] (by kernel_rfl) rfl rfl (FFInv.c1 (FFInv.below HI_wq.out (Below.refl _ _).drew)) (fun hHeld => ?_)
              generalize hW_ : wq.drew = wz at hHeld ⊢
              have HI_wz := Aside0.mk (show FFInv w w.heap.size b2 (.slice A0 l0.length c0) (⟨#[]⟩ : ByteArray) wz by rw [← hW_]; exact FFInv.below HI_wq.out (Below.refl _ _).drew)
              clear hW_
              refine pure_ (i := 0) (N := some 16) (v := ?_) (a' := ?_) #[true, false, false, false, false, false, false, false, false, false, false] rfl rfl (by kernel_rfl) (fun _ _ _ h => h) (Or.inl ⟨by rfl, ?_⟩) ?_ ?_
              rotate_left
              · intro w'
                go_simp
                with_reducible rfl
              rotate_left
              · simp only [Act.put, List.setIfInBounds_toArray, List.set_cons_zero, List.set_cons_succ, i64_w, i32_w]
                rfl
              refine pure_ (i := 1) (N := some 17) (v := ?_) (a' := ?_) #[true, true, false, false, false, false, false, false, false, false, false] rfl rfl (by kernel_rfl) (fun _ _ _ h => h) (Or.inl ⟨by rfl, ?_⟩) ?_ ?_
              rotate_left
              · intro w'
                go_simp
                with_reducible rfl
              rotate_left
              · simp only [Act.put, List.setIfInBounds_toArray, List.set_cons_zero, List.set_cons_succ, i64_w, i32_w]
                rfl
              refine take_ (i := 2) (N := some 18) (v := ?_) (a' := ?_) #[true, true, true, false, false, false, false, false, false, false, false] rfl rfl (by kernel_rfl) (fun _ _ _ h => h) (Or.inl ⟨by rfl, ?_⟩) hHeld ?_ ?_
              rotate_left
              · intro w' s0
                go_simp
                with_reducible rfl
              rotate_left
              · simp only [Act.put, List.setIfInBounds_toArray, List.set_cons_zero, List.set_cons_succ, i64_w, i32_w]
                rfl
              refine pure_ (i := 3) (N := some 19) (v := ?_) (a' := ?_) #[true, true, true, true, false, false, false, false, false, false, false] rfl rfl (by kernel_rfl) (fun _ _ _ h => h) (Or.inl ⟨by rfl, ?_⟩) ?_ ?_
              rotate_left
              · intro w'
                go_simp
                with_reducible rfl
              rotate_left
              · simp only [Act.put, List.setIfInBounds_toArray, List.set_cons_zero, List.set_cons_succ, i64_w, i32_w]
                rfl
              refine pure_ (i := 4) (N := some 20) (v := ?_) (a' := ?_) #[true, true, true, true, true, false, false, false, false, false, false] rfl rfl (by kernel_rfl) (fun _ _ _ h => h) (Or.inl ⟨by rfl, ?_⟩) ?_ ?_
              rotate_left
              · intro w'
                go_simp
                with_reducible rfl
              rotate_left
              · simp only [Act.put, List.setIfInBounds_toArray, List.set_cons_zero, List.set_cons_succ, i64_w, i32_w]
                rfl
              refine pure_ (i := 5) (N := some 21) (v := ?_) (a' := ?_) #[true, true, true, true, true, true, false, false, false, false, false] rfl rfl (by kernel_rfl) (fun _ _ _ h => h) (Or.inl ⟨by rfl, ?_⟩) ?_ ?_
              rotate_left
              · intro w'
                go_simp
                with_reducible rfl
              rotate_left
              · simp only [Act.put, List.setIfInBounds_toArray, List.set_cons_zero, List.set_cons_succ, i64_w, i32_w]
                rfl
              refine pure_ (i := 6) (N := some 22) (v := undef) (a' := ?_) #[true, true, true, true, true, true, true, false, false, false, false] rfl rfl (by kernel_rfl) (fun _ _ _ h => h) (Or.inr ⟨by rfl, rfl⟩) ?_ ?_
              rotate_left
              · simp only [Act.put, List.setIfInBounds_toArray, List.set_cons_zero, List.set_cons_succ, i64_w, i32_w]
                rfl
              refine pure_ (i := 7) (N := some 23) (v := undef) (a' := ?_) #[true, true, true, true, true, true, true, true, false, false, false] rfl rfl (by kernel_rfl) (fun _ _ _ h => h) (Or.inr ⟨by rfl, rfl⟩) ?_ ?_
              rotate_left
              · simp only [Act.put, List.setIfInBounds_toArray, List.set_cons_zero, List.set_cons_succ, i64_w, i32_w]
                rfl
              refine pure_ (i := 8) (N := some 24) (v := undef) (a' := ?_) #[true, true, true, true, true, true, true, true, true, false, false] rfl rfl (by kernel_rfl) (fun _ _ _ h => h) (Or.inr ⟨by rfl, rfl⟩) ?_ ?_
              rotate_left
              · simp only [Act.put, List.setIfInBounds_toArray, List.set_cons_zero, List.set_cons_succ, i64_w, i32_w]
                rfl
              refine pure_ (i := 9) (N := some 25) (v := undef) (a' := ?_) #[true, true, true, true, true, true, true, true, true, true, false] rfl rfl (by kernel_rfl) (fun _ _ _ h => h) (Or.inr ⟨by rfl, rfl⟩) ?_ ?_
              rotate_left
              · simp only [Act.put, List.setIfInBounds_toArray, List.set_cons_zero, List.set_cons_succ, i64_w, i32_w]
                rfl
              refine pure_ (i := 10) (N := some 26) (v := ?_) (a' := ?_) #[true, true, true, true, true, true, true, true, true, true, true] rfl rfl (by kernel_rfl) (fun _ _ _ h => h) (Or.inl ⟨by rfl, ?_⟩) ?_ ?_
              rotate_left
              · intro w'
                go_simp
                with_reducible rfl
              rotate_left
              · simp only [Act.put, List.setIfInBounds_toArray, List.set_cons_zero, List.set_cons_succ, i64_w, i32_w]
                rfl
              refine done_ (by kernel_rfl) ?_
              go_wp2
              go_ret2
              exact ⟨rfl, HI_wz.out.1⟩
    · rw [if_neg c64] at h; cases h

/-! ### spec_l01In: function 46 -/
def spec_l01In.f (a0 : Int) (a1 : Int) (a2 : Int) : Option (Bool) := if a0 ≥ a1 then (some (decide (a0 ≤ a2))) else (some false)
set_option maxHeartbeats 8000000 in
set_option maxRecDepth 100000 in
theorem spec_l01In.calls (a0 : Int) (a1 : Int) (a2 : Int) (r : Bool) (w : World) (h : spec_l01In.f a0 a1 a2 = some r) :
    Calls Tryd.prog 46 #[.int .i64 a0, .int .i64 a1, .int .i64 a2] w fun e w' => e = .returned (.bool r) ∧ Drawn0 w w' := by
  have H : (if a0 ≥ a1 then (some (decide (a0 ≤ a2))) else (some false)) = some r := h
  clear h
  by_cases c4 : a0 ≥ a1
  · rw [if_pos c4] at H
    have c4b0 : decide (a1 ≤ a0) = true := decide_eq_true c4
    clear c4
    obtain rfl := Option.some.inj H
    go_enter Tryd.func46, Tryd.ntmps46
    go_wp2
    go_ret
    exact ⟨by first | rfl | (simp only [Go.IntWalk.i64_left]; first | done | rfl) | (simp; done) | (simp [*]; done), by repeat (first | exact Drawn0.refl _ | apply Drawn0.step)⟩
  · rw [if_neg c4] at H
    have c4b0 : decide (a1 ≤ a0) = false := decide_eq_false c4
    clear c4
    obtain rfl := Option.some.inj H
    go_enter Tryd.func46, Tryd.ntmps46
    go_wp2
    go_ret
    exact ⟨by first | rfl | (simp only [Go.IntWalk.i64_left]; first | done | rfl) | (simp; done) | (simp [*]; done), by repeat (first | exact Drawn0.refl _ | apply Drawn0.step)⟩

/-! ### spec_l01Has: function 60 -/
def spec_l01Has.l0 : Nat → List Int → Int → Int → Option (Bool)
  | 0, _, _, _ => none
  | k + 1, x0, x1, x5 => if x5 < (x0.length : Int) then (if 0 ≤ x5 then (if (rd x0 x5) = x1 then (some true) else (spec_l01Has.l0 k x0 x1 (wrap64 (x5 + 1)))) else (none)) else (some false)
def spec_l01Has.f (k : Nat) (l0 : List Int) (a1 : Int) : Option (Bool) := spec_l01Has.l0 k l0 a1 0
theorem spec_l01Has.mono_l : ∀ k, (∀ y0 y1 y2, LeO (spec_l01Has.l0 k y0 y1 y2) (spec_l01Has.l0 (k + 1) y0 y1 y2))
  | 0 => fun _ _ _ r h => by simp [spec_l01Has.l0] at h
  | k + 1 => by
    have ih0 := spec_l01Has.mono_l k
    · intro y0 y1 y2
      unfold spec_l01Has.l0
      repeat' first
      | (with_reducible exact ih0 _ _ _)
      | (with_reducible exact LeO.refl _)
      | (with_reducible exact LeO.none _)
      | (with_reducible refine LeO.ite ?_ ?_)
      | (with_reducible refine LeO.bind ?_ (fun _ => ?_))
      | exact ih0 _ _ _
      | exact LeO.none _
      | refine LeO.ite ?_ ?_
      | refine LeO.bind ?_ (fun _ => ?_)
theorem spec_l01Has.mono : ∀ a0 a1 k, LeO (spec_l01Has.f k a0 a1) (spec_l01Has.f (k + 1) a0 a1) := by
  intro a0 a1 k
  have ih0 := spec_l01Has.mono_l k
  unfold spec_l01Has.f
  repeat' first
      | (with_reducible exact ih0 _ _ _)
      | (with_reducible exact LeO.refl _)
      | (with_reducible exact LeO.none _)
      | (with_reducible refine LeO.ite ?_ ?_)
      | (with_reducible refine LeO.bind ?_ (fun _ => ?_))
      | exact ih0 _ _ _
      | exact LeO.none _
      | refine LeO.ite ?_ ?_
      | refine LeO.bind ?_ (fun _ => ?_)
set_option maxHeartbeats 8000000 in
set_option maxRecDepth 100000 in
theorem spec_l01Has.calls (k : Nat) (A0 : Option Addr) (c0 : Nat) (l0 : List Int) (a1 : Int) (r : Bool) (w : World) (hr0 : Kd.C (Kd.int .i64) w A0 l0.length l0) (hc0 : l0.length ≤ c0) (h : spec_l01Has.f k l0 a1 = some r) :
    Calls Tryd.prog 60 #[.slice A0 l0.length c0, .int .i64 a1] w fun e w' => e = .returned (.bool r) ∧ Drawn0 w w' := by
  have HR0 := Aside0.mk hr0
  have HC0 := Aside0.mk hc0
  clear hr0 hc0
  have H : (spec_l01Has.l0 k l0 a1 0) = some r := h
  clear h
  have H' := Aside0.mk H
  clear H
  go_enter Tryd.func60, Tryd.ntmps60
  go_wp2
  go_loopg [5] k (fun kq v5 w' => ∃ (x5_1 : Int), v5 = .int .i64 x5_1 ∧ Aside0 (spec_l01Has.l0 kq l0 a1 x5_1 = some r) ∧ Aside0 (kq ≤ k) ∧ Drawn0 w w')
  case atStart => exact ⟨(0), (by first | rfl | (simp; done) | (simp [*]; done)), H', ⟨Nat.le_refl _⟩, by repeat (first | exact Drawn0.refl _ | apply Drawn0.step)⟩
  case round =>
    clear H'
    try clear p2
    obtain ⟨x5_1, rfl, HA, HK1, ⟨m1, rfl⟩⟩ := hrel
    cases gk with
    | zero => exact absurd HA.out (by simp [spec_l01Has.l0])
    | succ k1 =>
      have H := HA.out
      clear HA
      simp only [spec_l01Has.l0] at H
      by_cases c3 : x5_1 < (l0.length : Int)
      · rw [if_pos c3] at H
        have c3b0 : decide (x5_1 < (l0.length : Int)) = true := decide_eq_true c3
        clear c3
        by_cases c4 : 0 ≤ x5_1
        · rw [if_pos c4] at H
          have c4b0 : decide (0 ≤ x5_1) = true := decide_eq_true c4
          clear c4
          by_cases c5 : (rd l0 x5_1) = a1
          · rw [if_pos c5] at H
            have c5b0 : ((rd l0 x5_1) == a1) = true := beq_iff_eq.mpr c5
            have c5b1 : ((rd l0 x5_1) != a1) = false := bne_eq_false_iff_eq.mpr c5
            clear c5
            obtain rfl := Option.some.inj H
            have p313 : 0 ≤ (x5_1 : Int) := of_decide_eq_true (by first | (with_reducible assumption) | assumption)
            have q313 : x5_1 < (l0.length : Int) := of_decide_eq_true (by first | (with_reducible assumption) | assumption)
            obtain ⟨ad313, e313, hx313_0⟩ := Kd.at_int HR0.out x5_1 p313 q313
            cases e313
            replace p313 := eq_true p313
            replace q313 := eq_true q313
            go_wp2
            go_ret
            exact ⟨by first | rfl | (simp only [Go.IntWalk.i64_left]; first | done | rfl) | (simp; done) | (simp [*]; done), by repeat (first | exact Drawn0.refl _ | apply Drawn0.step)⟩
          · rw [if_neg c5] at H
            have c5b0 : ((rd l0 x5_1) == a1) = false := beq_eq_false_iff_ne.mpr c5
            have c5b1 : ((rd l0 x5_1) != a1) = true := bne_iff_ne.mpr c5
            have H' := Aside0.mk H
            clear H
            have p313 : 0 ≤ (x5_1 : Int) := of_decide_eq_true (by first | (with_reducible assumption) | assumption)
            have q313 : x5_1 < (l0.length : Int) := of_decide_eq_true (by first | (with_reducible assumption) | assumption)
            obtain ⟨ad313, e313, hx313_0⟩ := Kd.at_int HR0.out x5_1 p313 q313
            cases e313
            replace p313 := eq_true p313
            replace q313 := eq_true q313
            go_wp2
            go_roundg k1
            case measure => have := HK1.out; omega
            case rel => exact ⟨(wrap64 (x5_1 + 1)), (by first | rfl | (simp; done) | (simp [*]; done)), H', ⟨by have := HK1.out; omega⟩, by repeat (first | exact Drawn0.refl _ | apply Drawn0.step)⟩
        · rw [if_neg c4] at H
          exact absurd H (by simp)
      · rw [if_neg c3] at H
        have c3b0 : decide (x5_1 < (l0.length : Int)) = false := decide_eq_false c3
        clear c3
        obtain rfl := Option.some.inj H
        go_wp2
        go_ret
        exact ⟨by first | rfl | (simp only [Go.IntWalk.i64_left]; first | done | rfl) | (simp; done) | (simp [*]; done), by repeat (first | exact Drawn0.refl _ | apply Drawn0.step)⟩

end Go.Proofs.YtdpmpoakjhhaaaaDoor.QFnStrips
