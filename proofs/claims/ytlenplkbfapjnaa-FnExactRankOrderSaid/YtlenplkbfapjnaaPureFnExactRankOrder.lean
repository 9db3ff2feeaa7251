/- The pure statement of FnExactRankOrder: for every input that the row lets in, the law's Lean function answers true; no further condition. -/
import Derived.Test.YtlenplkbfapjnaaQFnExactRankOrderx3
set_option linter.unusedVariables false
set_option linter.unusedSimpArgs false
namespace Go.Proofs.Ytlenplkbfapjnaa.Pure
open Go.RowKit Go.Proofs.Ytlenplkbfapjnaa.QFnExactRankOrder Go.Proofs.YtlenplkbfapjnaaW.PrintWords Go.Proofs.YtlenplkbfapjnaaW.PrintLast

theorem w64 {x : Int} (h0 : -9223372036854775808 ≤ x) (h1 : x ≤ 9223372036854775807) : wrap64 x = x := by unfold wrap64; omega
theorem wz : wrap64 0 = 0 := w64 (by omega) (by omega)
theorem w64_range (x : Int) : -9223372036854775808 ≤ wrap64 x ∧ wrap64 x ≤ 9223372036854775807 := by unfold wrap64; omega
theorem wf64 {x : Int} (h : (Lit.int .i64 x).wf = true) : -9223372036854775808 ≤ x ∧ x ≤ 9223372036854775807 := by
  have h' : (decide (IntKind.i64.min ≤ x) && decide (x ≤ IntKind.i64.max)) = true := h
  simp only [Bool.and_eq_true, decide_eq_true_eq] at h'
  exact h'
theorem wf8 {x : Int} (h : (Lit.int .u8 x).wf = true) : 0 ≤ x ∧ x ≤ 255 := by
  have h' : (decide (IntKind.u8.min ≤ x) && decide (x ≤ IntKind.u8.max)) = true := h
  simp only [Bool.and_eq_true, decide_eq_true_eq] at h'
  exact h'
theorem rd_get {xs : List Int} {i : Nat} (h : i < xs.length) : rd xs (i : Int) = xs[i] := by
  simp [rd, List.getD_eq_getElem?_getD, h]
theorem rd_nat (xs : List Int) (i : Nat) : rd xs (i : Int) = xs.getD i 0 := by simp [rd]
theorem rd_mem {xs : List Int} {i : Nat} (h : i < xs.length) : rd xs (i : Int) ∈ xs := by rw [rd_get h]; exact List.getElem_mem h
theorem rd_ext {xs ys : List Int} (hl : xs.length = ys.length) (h : ∀ i : Nat, i < xs.length → rd xs (i : Int) = rd ys (i : Int)) : xs = ys := by
  apply List.ext_getElem hl
  intro i h1 h2
  have := h i h1
  rwa [rd_get h1, rd_get h2] at this
theorem rd_set {xs : List Int} {i j : Nat} {v : Int} (hi : i < xs.length) : rd (xs.set i v) (j : Int) = if i = j then v else rd xs (j : Int) := by
  simp only [rd_nat, List.getD_eq_getElem?_getD, List.getElem?_set]
  by_cases h : i = j
  · subst h; simp [hi]
  · simp [h]
theorem rd_append_left {xs ys : List Int} {j : Nat} (h : j < xs.length) : rd (xs ++ ys) (j : Int) = rd xs (j : Int) := by
  simp only [rd_nat, List.getD_eq_getElem?_getD, List.getElem?_append_left h]
theorem rd_append_at {xs : List Int} {v : Int} : rd (xs ++ [v]) (xs.length : Int) = v := by
  simp [rd_nat, List.getD_eq_getElem?_getD]
theorem rd_take {xs : List Int} {i j : Nat} (h : j < i) : rd (xs.take i) (j : Int) = rd xs (j : Int) := by
  simp [rd_nat, List.getD_eq_getElem?_getD, List.getElem?_take, h]
theorem rd_drop {xs : List Int} {i j : Nat} : rd (xs.drop i) (j : Int) = rd xs ((i + j : Nat) : Int) := by
  simp only [rd_nat, List.getD_eq_getElem?_getD, List.getElem?_drop]
theorem toNat_cast (i : Nat) : ((i : Nat) : Int).toNat = i := Int.toNat_natCast i
theorem drop_cons {xs : List Int} {i : Nat} (h : i < xs.length) : xs.drop i = rd xs (i : Int) :: xs.drop (i + 1) := by
  rw [rd_get h]; exact List.drop_eq_getElem_cons h
theorem Ev_ite_t {α : Type} {c : Prop} [Decidable c] {f g : Nat → Option α} {r : α} (h : c) (k : Ev f r) : Ev (fun n => if c then f n else g n) r :=
  Ev.congr (fun _ => if_pos h) k
theorem Ev_ite_f {α : Type} {c : Prop} [Decidable c] {f g : Nat → Option α} {r : α} (h : ¬ c) (k : Ev g r) : Ev (fun n => if c then f n else g n) r :=
  Ev.congr (fun _ => if_neg h) k
theorem w64n (i : Nat) (h : i < 9223372036854775807) : wrap64 ((i : Int) + 1) = ((i + 1 : Nat) : Int) := by
  rw [w64 (by omega) (by omega)]; rfl
theorem wrap_add_wrap (a b : Int) : wrap64 (wrap64 a + b) = wrap64 (a + b) := by unfold wrap64; omega
theorem wrap_add_wrap' (a b : Int) : wrap64 (a + wrap64 b) = wrap64 (a + b) := by unfold wrap64; omega
theorem l01Has_ev (l : List Int) (x : Int) (hl : l.length ≤ 35184372088832) : Ev (fun k => spec_l01Has.f k l x) (decide (x ∈ l)) := by
  have loop : ∀ (d i : Nat), i + d = l.length → Ev (fun k => spec_l01Has.l0 k l x (i : Int)) (decide (x ∈ l.drop i)) := by
    intro d
    induction d with
    | zero =>
      intro i hi
      have e : decide (x ∈ l.drop i) = false := by rw [List.drop_of_length_le (by omega)]; simp
      rw [e]
      exact Ev.step (f := fun _ => some false) (fun k => by rw [spec_l01Has.l0, if_neg (by omega)]) (Ev.now _)
    | succ d ih =>
      intro i hi
      by_cases e : rd l (i : Int) = x
      · have e1 : decide (x ∈ l.drop i) = true := by rw [drop_cons (by omega)]; simp [e]
        rw [e1]
        exact Ev.step (f := fun _ => some true) (fun k => by rw [spec_l01Has.l0, if_pos (by omega), if_pos (by omega), if_pos e]) (Ev.now _)
      · have e1 : decide (x ∈ l.drop i) = decide (x ∈ l.drop (i + 1)) := by rw [drop_cons (by omega)]; simp [Ne.symm e]
        rw [e1]
        exact Ev.step (fun k => by rw [spec_l01Has.l0, if_pos (by omega), if_pos (by omega), if_neg e, w64n i (by omega)]) (ih (i + 1) (by omega))
  have := loop l.length 0 (by omega)
  rw [List.drop_zero] at this
  exact Ev.congr (fun k => rfl) this
theorem l01In_eq (n a b : Int) : spec_l01In.f n a b = some (decide (a ≤ n ∧ n ≤ b)) := by
  unfold spec_l01In.f
  by_cases h : n ≥ a
  · rw [if_pos h]; simp [show a ≤ n from h]
  · rw [if_neg h]; simp [show ¬ a ≤ n from h]
theorem inRange_eq (n a b : Int) : impl_inRange.f n a b = some (decide (a ≤ n ∧ n ≤ b)) := by
  unfold impl_inRange.f
  by_cases h : a ≤ n
  · rw [if_pos h]; simp [h]
  · rw [if_neg h]; simp [h]
def ordP (p : List Int) (i : Nat) : Prop := ∀ j : Nat, i ≤ j → j < p.length → 0 ≤ rd p (j : Int) ∧ rd p (j : Int) < p.length ∧ ∀ t : Nat, t < j → rd p (t : Int) ≠ rd p (j : Int)
theorem ordP_end {p : List Int} {i : Nat} (h : p.length ≤ i) : ordP p i := fun j hj hl => by omega
theorem ordP_succ {p : List Int} {i : Nat} (h : i < p.length) : ordP p i ↔ (0 ≤ rd p (i : Int) ∧ rd p (i : Int) < p.length ∧ ∀ t : Nat, t < i → rd p (t : Int) ≠ rd p (i : Int)) ∧ ordP p (i + 1) := by
  constructor
  · intro H
    exact ⟨H i (Nat.le_refl _) h, fun j hj hl => H j (by omega) hl⟩
  · rintro ⟨h1, h2⟩ j hj hl
    by_cases e : i = j
    · subst e; exact h1
    · exact h2 j (by omega) hl
noncomputable def isOrd (p : List Int) : Bool := @decide (p.length ≤ 64 ∧ ordP p 0) (Classical.propDecidable _)
theorem isOrd_iff {p : List Int} : isOrd p = true ↔ p.length ≤ 64 ∧ ordP p 0 := by unfold isOrd; exact @decide_eq_true_iff _ (Classical.propDecidable _)
theorem mem_take_iff (p : List Int) (i : Nat) (hi : i ≤ p.length) (x : Int) : x ∈ p.take i ↔ ∃ t : Nat, t < i ∧ rd p (t : Int) = x := by
  constructor
  · intro h
    obtain ⟨t, ht, e⟩ := List.mem_iff_getElem.1 h
    rw [List.length_take] at ht
    refine ⟨t, by omega, ?_⟩
    rw [rd_get (by omega), ← e, List.getElem_take]
  · rintro ⟨t, ht, e⟩
    rw [← e, ← rd_take ht]
    exact rd_mem (by rw [List.length_take]; omega)
theorem specIsOrder_ev (p : List Int) (hl : p.length ≤ 35184372088832) : Ev (fun k => spec_IsOrder.f k p) (isOrd p) := by
  have loop : ∀ (d i : Nat), i + d = p.length → ∀ b : Bool, (b = true ↔ p.length ≤ 64 ∧ ordP p i) → Ev (fun k => spec_IsOrder.l0 k p (i : Int)) b := by
    intro d
    induction d with
    | zero =>
      intro i hi b hb
      have e : b = decide ((p.length : Int) ≤ 64) := by
        rw [Bool.eq_iff_iff, hb, decide_eq_true_iff]
        constructor
        · rintro ⟨h, _⟩; omega
        · intro h; exact ⟨by omega, ordP_end (by omega)⟩
      rw [e]
      exact Ev.step (f := fun _ => some (decide ((p.length : Int) ≤ 64))) (fun k => by rw [spec_IsOrder.l0, if_neg (by omega)]) (Ev.now _)
    | succ d ih =>
      intro i hi b hb
      have hs := ordP_succ (p := p) (i := i) (by omega)
      refine Ev.step (f := fun k => (some (decide (0 ≤ rd p (i : Int) ∧ rd p (i : Int) ≤ (p.length : Int) - 1))).bind fun t => if t = true then (spec_l01Has.f k (p.take i) (rd p (i : Int))).bind fun t => if t = true then some false else spec_IsOrder.l0 k p ((i + 1 : Nat) : Int) else some false) (fun k => by
        rw [spec_IsOrder.l0, if_pos (by omega), if_pos (by omega), l01In_eq, w64 (x := (p.length : Int) - 1) (by omega) (by omega), w64n i (by omega), toNat_cast]
        simp only [Option.bind_some]
        rw [if_pos (show (i : Int) ≤ (p.length : Int) by omega)]) ?_
      simp only [Option.bind_some, decide_eq_true_eq]
      by_cases h1 : 0 ≤ rd p (i : Int) ∧ rd p (i : Int) ≤ (p.length : Int) - 1
      · refine Ev_ite_t h1 (Ev.bind (l01Has_ev (p.take i) (rd p (i : Int)) (by rw [List.length_take]; omega)) ?_)
        simp only [decide_eq_true_eq]
        by_cases h2 : rd p (i : Int) ∈ p.take i
        · obtain ⟨t, ht, e⟩ := (mem_take_iff p i (by omega) _).1 h2
          obtain rfl : b = false := by
            rw [Bool.eq_false_iff]; intro hbt
            exact (hs.1 (hb.1 hbt).2).1.2.2 t ht e
          exact Ev_ite_t h2 (Ev.now _)
        · refine Ev_ite_f h2 (ih (i + 1) (by omega) b ?_)
          rw [hb, hs]
          constructor
          · rintro ⟨a, _, c⟩; exact ⟨a, c⟩
          · rintro ⟨a, c⟩
            refine ⟨a, ⟨h1.1, by omega, fun t ht e => h2 ((mem_take_iff p i (by omega) _).2 ⟨t, ht, e⟩)⟩, c⟩
      · obtain rfl : b = false := by
          rw [Bool.eq_false_iff]; intro hbt
          have := (hs.1 (hb.1 hbt).2).1
          exact h1 ⟨this.1, by omega⟩
        exact Ev_ite_f h1 (Ev.now _)
  exact Ev.congr (fun k => rfl) (loop p.length 0 (by omega) _ isOrd_iff)
theorem rdOf_set {α : Type} {z : α} {xs : List α} {i j : Nat} {v : α} (hi : i < xs.length) : rdOf z (xs.set i v) (j : Int) = if i = j then v else rdOf z xs (j : Int) := by
  simp only [rdOf, toNat_cast, List.getD_eq_getElem?_getD, List.getElem?_set]
  by_cases h : i = j
  · subst h; simp [hi]
  · simp [h]
theorem implIsOrder_ev (p : List Int) (hl : p.length ≤ 35184372088832) : Ev (fun k => impl_IsOrder.f k p) (isOrd p) := by
  by_cases h64 : p.length ≤ 64
  · have loop : ∀ (d i : Nat), i + d = p.length → ∀ seen : List Bool, seen.length = p.length → (∀ v : Nat, v < p.length → (rdOf false seen (v : Int) = true ↔ ∃ t : Nat, t < i ∧ rd p (t : Int) = v)) →
        ∀ b : Bool, (b = true ↔ ordP p i) → Ev (fun k => impl_IsOrder.l0 k p seen p (p.length : Int) (i : Int)) b := by
      intro d
      induction d with
      | zero =>
        intro i hi seen _ _ b hb
        obtain rfl : b = true := hb.2 (ordP_end (by omega))
        exact Ev.step (f := fun _ => some true) (fun k => by rw [impl_IsOrder.l0, if_neg (by omega)]) (Ev.now _)
      | succ d ih =>
        intro i hi seen hsl hseen b hb
        have hs := ordP_succ (p := p) (i := i) (by omega)
        refine Ev.step (f := fun k => (some (decide (0 ≤ rd p (i : Int) ∧ rd p (i : Int) ≤ (p.length : Int) - 1))).bind fun t => if t = true then (if 0 ≤ rd p (i : Int) then (if rd p (i : Int) < (seen.length : Int) then (if rdOf false seen (rd p (i : Int)) = true then some false else impl_IsOrder.l0 k p (seen.set (rd p (i : Int)).toNat true) p (p.length : Int) ((i + 1 : Nat) : Int)) else none) else none) else some false) (fun k => by
          rw [impl_IsOrder.l0, if_pos (by omega), if_pos (by omega), if_pos (by omega), impl_length_int64.f]
          simp only [Option.bind_some]
          rw [inRange_eq, w64 (x := (p.length : Int) - 1) (by omega) (by omega), w64n i (by omega)]; rfl) ?_
        simp only [Option.bind_some, decide_eq_true_eq]
        by_cases h1 : 0 ≤ rd p (i : Int) ∧ rd p (i : Int) ≤ (p.length : Int) - 1
        · obtain ⟨v, hv⟩ := Int.eq_ofNat_of_zero_le h1.1
          refine Ev_ite_t h1 (Ev_ite_t h1.1 (Ev_ite_t (by omega) ?_))
          rw [hv, toNat_cast]
          rw [hv] at h1 hs
          have hsv := hseen v (by omega)
          by_cases h2 : rdOf false seen (v : Int) = true
          · obtain ⟨t, ht, e⟩ := hsv.1 h2
            obtain rfl : b = false := by
              rw [Bool.eq_false_iff]; intro hbt
              exact (hs.1 (hb.1 hbt)).1.2.2 t ht e
            exact Ev_ite_t h2 (Ev.now _)
          · refine Ev_ite_f h2 (ih (i + 1) (by omega) _ (by rw [List.length_set]; exact hsl) (fun u hu => ?_) b ?_)
            · rw [rdOf_set (by omega)]
              by_cases e : v = u
              · subst e
                simp only [if_true, true_iff]
                exact ⟨i, by omega, hv⟩
              · rw [if_neg e, hseen u hu]
                constructor
                · rintro ⟨t, ht, et⟩; exact ⟨t, by omega, et⟩
                · rintro ⟨t, ht, et⟩
                  by_cases e2 : t = i
                  · subst e2; rw [hv] at et; omega
                  · exact ⟨t, by omega, et⟩
            · rw [hb, hs]
              constructor
              · rintro ⟨_, c⟩; exact c
              · intro c
                refine ⟨⟨h1.1, by omega, fun t ht e => h2 (hsv.2 ⟨t, ht, e⟩)⟩, c⟩
        · obtain rfl : b = false := by
            rw [Bool.eq_false_iff]; intro hbt
            have := (hs.1 (hb.1 hbt)).1
            exact h1 ⟨this.1, by omega⟩
          exact Ev_ite_f h1 (Ev.now _)
    refine Ev.congr (fun k => ?_) (loop p.length 0 (by omega) (List.replicate p.length false) (by simp) (fun v hv => ?_) (isOrd p) (by rw [isOrd_iff]; exact ⟨fun h => h.2, fun h => ⟨h64, h⟩⟩))
    · simp only [impl_IsOrder.f, toNat_cast]
      rw [if_neg (by omega), if_pos (by omega), if_pos (by omega)]
      rfl
    · constructor
      · intro h; simp [rdOf, List.getD_eq_getElem?_getD, List.getElem?_replicate, hv] at h
      · rintro ⟨t, ht, _⟩; omega
  · obtain e : isOrd p = false := by
      rw [Bool.eq_false_iff]; intro h; exact h64 (isOrd_iff.1 h).1
    rw [e]
    refine Ev.congr (f := fun _ => some false) (fun k => ?_) (Ev.now _)
    simp only [impl_IsOrder.f]
    rw [if_pos (by omega)]
def fac : Nat → Nat
  | 0 => 1
  | n + 1 => (n + 1) * fac n
theorem specFac_fin : ∀ n : Fin 13, spec_l01Factorial.f 20 (n.val : Int) = some (fac n.val : Int) := by decide +kernel
theorem implFac_fin : ∀ n : Fin 13, impl_factorial.f 20 (n.val : Int) = some (fac n.val : Int) := by decide +kernel
theorem specFac_ev (n : Nat) (h : n ≤ 12) : Ev (fun k => spec_l01Factorial.f k (n : Int)) (fac n : Int) := Ev.of (spec_l01Factorial.mono _) (specFac_fin ⟨n, by omega⟩)
theorem implFac_ev (n : Nat) (h : n ≤ 12) : Ev (fun k => impl_factorial.f k (n : Int)) (fac n : Int) := Ev.of (impl_factorial.mono _) (implFac_fin ⟨n, by omega⟩)
def cnt (l : List Int) (x : Int) : Nat := l.countP fun y => decide (y < x)
theorem cnt_cons (l : List Int) (y x : Int) : cnt (y :: l) x = cnt l x + if y < x then 1 else 0 := by
  unfold cnt; rw [List.countP_cons]; simp
theorem cnt_le (l : List Int) (x : Int) : cnt l x ≤ l.length := List.countP_le_length
def rkS : List Int → Int → Int
  | [], s => s
  | x :: t, s => rkS t (s + (cnt t x : Int) * (fac t.length : Int))
theorem specRank_loop (p : List Int) (h12 : p.length ≤ 12) : ∀ (d i : Nat), i + d = p.length → ∀ s : Int, Ev (fun k => spec_RankOrder.l0 k p (wrap64 s) (i : Int)) (wrap64 (rkS (p.drop i) s), 0) := by
  intro d
  induction d with
  | zero =>
    intro i hi s
    rw [List.drop_of_length_le (by omega), rkS]
    exact Ev.step (f := fun _ => some (wrap64 s, 0)) (fun k => by rw [spec_RankOrder.l0, if_neg (by omega)]) (Ev.now _)
  | succ d ih =>
    intro i hi s
    have inner : ∀ (e j : Nat), j + e = p.length → ∀ c : Nat, c ≤ j → Ev (fun k => spec_RankOrder.l1 k p (wrap64 s) (i : Int) (c : Int) (j : Int)) (wrap64 (rkS (p.drop (i + 1)) (s + ((c + cnt (p.drop j) (rd p (i : Int)) : Nat) : Int) * (fac (p.length - i - 1) : Int))), 0) := by
      intro e
      induction e with
      | zero =>
        intro j hj c hc
        rw [show p.drop j = [] from List.drop_of_length_le (by omega)]
        have hz : cnt [] (rd p (i : Int)) = 0 := rfl
        rw [hz, Nat.add_zero]
        refine Ev.step (f := fun k => (spec_l01Factorial.f k ((p.length - i - 1 : Nat) : Int)).bind fun t => spec_RankOrder.l0 k p (wrap64 (wrap64 s + wrap64 ((c : Int) * t))) ((i + 1 : Nat) : Int)) (fun k => ?_) ?_
        · rw [spec_RankOrder.l1, if_neg (by omega), w64 (x := (p.length : Int) - i) (by omega) (by omega), w64 (x := (p.length : Int) - i - 1) (by omega) (by omega), w64n i (by omega), show (p.length : Int) - i - 1 = ((p.length - i - 1 : Nat) : Int) by omega]
        · refine Ev.bind (specFac_ev _ (by omega)) ?_
          rw [wrap_add_wrap, wrap_add_wrap']
          exact ih (i + 1) (by omega) _
      | succ e ih2 =>
        intro j hj c hc
        rw [drop_cons (xs := p) (show j < p.length by omega), cnt_cons]
        by_cases h : rd p (j : Int) < rd p (i : Int)
        · have := ih2 (j + 1) (by omega) (c + 1) (by omega)
          rw [if_pos h, show c + (cnt (p.drop (j + 1)) (rd p (i : Int)) + 1) = c + 1 + cnt (p.drop (j + 1)) (rd p (i : Int)) by omega]
          refine Ev.step (fun k => ?_) this
          rw [spec_RankOrder.l1, if_pos (by omega), if_pos (by omega), if_pos (by omega), if_pos (by omega), if_pos h, w64n j (by omega), w64n c (by omega)]
        · have := ih2 (j + 1) (by omega) c (by omega)
          rw [if_neg h, Nat.add_zero]
          refine Ev.step (fun k => ?_) this
          rw [spec_RankOrder.l1, if_pos (by omega), if_pos (by omega), if_pos (by omega), if_pos (by omega), if_neg h, w64n j (by omega)]
    rw [drop_cons (xs := p) (show i < p.length by omega), rkS]
    have := inner d (i + 1) (by omega) 0 (by omega)
    rw [Nat.zero_add, show p.length - i - 1 = (p.drop (i + 1)).length by rw [List.length_drop]; omega] at this
    exact Ev.step (fun k => by rw [spec_RankOrder.l0, if_pos (by omega), w64n i (by omega)]; rfl) this
theorem implRank_loop (p : List Int) (h12 : p.length ≤ 12) : ∀ (d i : Nat), i + d = p.length → ∀ s : Int, Ev (fun k => impl_RankOrder.l0 k p (wrap64 s) p (p.length : Int) (i : Int)) (wrap64 (rkS (p.drop i) s), 0) := by
  intro d
  induction d with
  | zero =>
    intro i hi s
    rw [List.drop_of_length_le (by omega), rkS]
    exact Ev.step (f := fun _ => some (wrap64 s, 0)) (fun k => by rw [impl_RankOrder.l0, if_neg (by omega)]) (Ev.now _)
  | succ d ih =>
    intro i hi s
    have hlen : (p.drop (i + 1)).length = d := by rw [List.length_drop]; omega
    have inner : ∀ (e j : Nat), j + e = d → ∀ s : Int, Ev (fun k => impl_RankOrder.l1 k p (wrap64 s) (i : Int) (rd p (i : Int)) p (p.length : Int) (i : Int) (p.drop (i + 1)) ((p.drop (i + 1)).length : Int) (j : Int)) (wrap64 (rkS (p.drop (i + 1)) (s + (cnt ((p.drop (i + 1)).drop j) (rd p (i : Int)) : Int) * (fac d : Int))), 0) := by
      intro e
      induction e with
      | zero =>
        intro j hj s
        rw [show (p.drop (i + 1)).drop j = [] from List.drop_of_length_le (by omega)]
        have hz : ((cnt [] (rd p (i : Int)) : Nat) : Int) = 0 := rfl
        rw [hz, Int.zero_mul, Int.add_zero]
        refine Ev.step (fun k => ?_) (ih (i + 1) (by omega) s)
        rw [impl_RankOrder.l1, if_neg (by omega), w64n i (by omega)]
      | succ e ih2 =>
        intro j hj s
        rw [drop_cons (xs := p.drop (i + 1)) (show j < (p.drop (i + 1)).length by omega), cnt_cons]
        by_cases h : rd (p.drop (i + 1)) (j : Int) < rd p (i : Int)
        · have := ih2 (j + 1) (by omega) (s + (fac d : Int))
          rw [if_pos h, Int.natCast_add, Int.add_mul, show ((1 : Nat) : Int) * (fac d : Int) = (fac d : Int) by omega]
          rw [show s + ((cnt ((p.drop (i + 1)).drop (j + 1)) (rd p (i : Int)) : Int) * (fac d : Int) + (fac d : Int)) = s + (fac d : Int) + (cnt ((p.drop (i + 1)).drop (j + 1)) (rd p (i : Int)) : Int) * (fac d : Int) by omega]
          refine Ev.step (f := fun k => (impl_factorial.f k (d : Int)).bind fun t => impl_RankOrder.l1 k p (wrap64 (wrap64 s + t)) (i : Int) (rd p (i : Int)) p (p.length : Int) (i : Int) (p.drop (i + 1)) ((p.drop (i + 1)).length : Int) ((j + 1 : Nat) : Int)) (fun k => ?_) ?_
          · rw [impl_RankOrder.l1, if_pos (by omega), if_pos (by omega), if_pos (by omega), if_pos h, w64n j (by omega), w64 (x := (p.length : Int) - i) (by omega) (by omega), w64 (x := (p.length : Int) - i - 1) (by omega) (by omega), show (p.length : Int) - i - 1 = (d : Int) by omega]
          · refine Ev.bind (implFac_ev d (by omega)) ?_
            rw [wrap_add_wrap]
            exact this
        · have := ih2 (j + 1) (by omega) s
          rw [if_neg h, Nat.add_zero]
          refine Ev.step (fun k => ?_) this
          rw [impl_RankOrder.l1, if_pos (by omega), if_pos (by omega), if_pos (by omega), if_neg h, w64n j (by omega)]
    have := inner d 0 (by omega) s
    rw [List.drop_zero] at this
    rw [drop_cons (xs := p) (show i < p.length by omega), rkS, hlen]
    refine Ev.step (fun k => ?_) this
    rw [impl_RankOrder.l0, if_pos (by omega), if_pos (by omega), if_pos (by omega), w64n i (by omega), if_pos (by omega), if_pos (by omega), toNat_cast]
    rfl
theorem rank_both (p : List Int) (hl : p.length ≤ 35184372088832) : ∃ r : Int × Int, Ev (fun k => spec_RankOrder.f k p) r ∧ Ev (fun k => impl_RankOrder.f k p) r ∧
    ((isOrd p = true ∧ p.length ≤ 12 ∧ r = (wrap64 (rkS p 0), 0)) ∨ (¬ (isOrd p = true ∧ p.length ≤ 12) ∧ (r = (0, 1) ∨ r = (0, 3)))) := by
  unfold spec_RankOrder.f impl_RankOrder.f
  by_cases h : isOrd p = true
  · by_cases h2 : (p.length : Int) > 12
    · exact ⟨(0, 3), Ev.bind (specIsOrder_ev p hl) (Ev_ite_t h (Ev_ite_t h2 (Ev.now _))), Ev.bind (implIsOrder_ev p hl) (Ev_ite_t h (Ev_ite_t h2 (Ev.now _))), .inr ⟨fun x => by omega, .inr rfl⟩⟩
    · have a := specRank_loop p (by omega) p.length 0 (by omega) 0
      have b := implRank_loop p (by omega) p.length 0 (by omega) 0
      rw [List.drop_zero, wz] at a b
      exact ⟨_, Ev.bind (specIsOrder_ev p hl) (Ev_ite_t h (Ev_ite_f h2 (Ev.congr (fun k => rfl) a))), Ev.bind (implIsOrder_ev p hl) (Ev_ite_t h (Ev_ite_f h2 (Ev.congr (fun k => rfl) b))), .inl ⟨h, by omega, rfl⟩⟩
  · exact ⟨(0, 1), Ev.bind (specIsOrder_ev p hl) (Ev_ite_f h (Ev.now _)), Ev.bind (implIsOrder_ev p hl) (Ev_ite_f h (Ev.now _)), .inr ⟨fun x => h x.1, .inl rfl⟩⟩
theorem toInt64S_ev (l : List Int) (hl : l.length ≤ 35184372088832) : Ev (fun k => laws_toInt64S.f k l) l := by
  have loop : ∀ (d i : Nat), i + d = l.length → ∀ x : List Int, x.length = l.length → (∀ j : Nat, j < i → rd x (j : Int) = rd l (j : Int)) → Ev (fun k => laws_toInt64S.l0 k l x (i : Int)) l := by
    intro d
    induction d with
    | zero =>
      intro i hi x hx h
      obtain rfl : x = l := rd_ext hx (fun j hj => h j (by omega))
      refine Ev.step (f := fun _ => some x) (fun k => by rw [laws_toInt64S.l0, if_neg (by omega)]) (Ev.now _)
    | succ d ih =>
      intro i hi x hx h
      refine Ev.step (f := fun k => laws_toInt64S.l0 k l (x.set i (rd l (i : Int))) ((i + 1 : Nat) : Int)) (fun k => by rw [laws_toInt64S.l0, if_pos (by omega), if_pos (by omega), if_pos (by omega), w64n i (by omega), toNat_cast]) ?_
      refine ih (i + 1) (by omega) _ (by rw [List.length_set]; exact hx) (fun j hj => ?_)
      rw [rd_set (by omega)]
      by_cases e : i = j
      · rw [if_pos e, e]
      · rw [if_neg e]; exact h j (by omega)
  refine Ev.congr (f := fun k => laws_toInt64S.l0 k l (List.replicate l.length 0) ((0 : Nat) : Int)) (fun k => ?_) (loop l.length 0 (by omega) _ (by simp) (fun j hj => by omega))
  simp only [laws_toInt64S.f, toNat_cast]
  rw [if_pos (by omega), if_pos (by omega)]
  rfl
theorem eqInt64S_ev (l : List Int) (hl : l.length ≤ 35184372088832) : Ev (fun k => laws_eqInt64S.f k l l) true := by
  have loop : ∀ (d i : Nat), i + d = l.length → Ev (fun k => laws_eqInt64S.l0 k l l (i : Int)) true := by
    intro d
    induction d with
    | zero =>
      intro i hi
      refine Ev.step (f := fun _ => some true) (fun k => by rw [laws_eqInt64S.l0, if_neg (by omega)]) (Ev.now _)
    | succ d ih =>
      intro i hi
      refine Ev.step (f := fun k => laws_eqInt64S.l0 k l l ((i + 1 : Nat) : Int)) (fun k => by rw [laws_eqInt64S.l0, if_pos (by omega), if_pos (by omega), if_pos (by omega), if_pos rfl, w64n i (by omega)]) ?_
      exact ih (i + 1) (by omega)
  refine Ev.congr (f := fun k => laws_eqInt64S.l0 k l l ((0 : Nat) : Int)) (fun k => ?_) (loop l.length 0 (by omega))
  simp only [laws_eqInt64S.f, if_true]
  rfl
theorem FnExactRankOrder : laws_FnExactRankOrder.Pure := by
  intro l hl h8 hw
  apply Ev.rounds
  unfold laws_FnExactRankOrder.f
  by_cases hb : (l.length : Int) > 1048576
  · exact Ev_ite_t hb (Ev.now _)
  · have t := toInt64S_ev l (by omega)
    obtain ⟨r, hs, hi, _⟩ := rank_both l (by omega)
    refine Ev_ite_f hb (Ev.bind t (Ev.bind hs (Ev.bind t (Ev.bind hi (Ev_ite_t rfl ?_)))))
    refine Ev.step (fun k => by rw [laws_FnExactRankOrder.j0, if_neg (by simp)]) ?_
    exact Ev.bind t (Ev.bind (eqInt64S_ev l (by omega)) (Ev_ite_t rfl (Ev.now _)))

end Go.Proofs.Ytlenplkbfapjnaa.Pure
