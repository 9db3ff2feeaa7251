/- The pure statement of FnExactTurnStack: for every input that the row lets in, the law's Lean function answers true; no further condition. -/
import Derived.Test.YtojdgflmmbndaaaQFnExactTurnStackx3
set_option linter.unusedVariables false
set_option linter.unusedSimpArgs false
namespace Go.Proofs.Ytojdgflmmbndaaa.Pure
open Go.RowKit Go.Proofs.Ytojdgflmmbndaaa.QFnExactTurnStack Go.Proofs.YtojdgflmmbndaaaW.PrintWords Go.Proofs.YtojdgflmmbndaaaW.PrintLast

theorem w64 {x : Int} (h0 : -9223372036854775808 ≤ x) (h1 : x ≤ 9223372036854775807) : wrap64 x = x := by unfold wrap64; omega
theorem wz : wrap64 0 = 0 := w64 (by omega) (by omega)
theorem w64_range (x : Int) : -9223372036854775808 ≤ wrap64 x ∧ wrap64 x ≤ 9223372036854775807 := by unfold wrap64; omega
theorem wf64 {x : Int} (h : (Lit.int .i64 x).wf = true) : -9223372036854775808 ≤ x ∧ x ≤ 9223372036854775807 := by
  have h' : (decide (IntKind.i64.min ≤ x) && decide (x ≤ IntKind.i64.max)) = true := h
  simp only [Bool.and_eq_true, decide_eq_true_eq] at h'
  exact h'
theorem wf8 {x : Int} (h : (Lit.int .u8 x).wf = true) : 0 ≤ x ∧ x ≤ 255 := by
  have h' : (decide (IntKind.u8.min ≤ x) && decide (x ≤ IntKind.u8.max)) = true := h
  simp only [Bool.and_eq_true, decide_eq_true_eq] at h'
  exact h'
theorem rd_get {xs : List Int} {i : Nat} (h : i < xs.length) : rd xs (i : Int) = xs[i] := by
  simp [rd, List.getD_eq_getElem?_getD, h]
theorem rd_nat (xs : List Int) (i : Nat) : rd xs (i : Int) = xs.getD i 0 := by simp [rd]
theorem rd_mem {xs : List Int} {i : Nat} (h : i < xs.length) : rd xs (i : Int) ∈ xs := by rw [rd_get h]; exact List.getElem_mem h
theorem rd_ext {xs ys : List Int} (hl : xs.length = ys.length) (h : ∀ i : Nat, i < xs.length → rd xs (i : Int) = rd ys (i : Int)) : xs = ys := by
  apply List.ext_getElem hl
  intro i h1 h2
  have := h i h1
  rwa [rd_get h1, rd_get h2] at this
theorem rd_set {xs : List Int} {i j : Nat} {v : Int} (hi : i < xs.length) : rd (xs.set i v) (j : Int) = if i = j then v else rd xs (j : Int) := by
  simp only [rd_nat, List.getD_eq_getElem?_getD, List.getElem?_set]
  by_cases h : i = j
  · subst h; simp [hi]
  · simp [h]
theorem rd_append_left {xs ys : List Int} {j : Nat} (h : j < xs.length) : rd (xs ++ ys) (j : Int) = rd xs (j : Int) := by
  simp only [rd_nat, List.getD_eq_getElem?_getD, List.getElem?_append_left h]
theorem rd_append_at {xs : List Int} {v : Int} : rd (xs ++ [v]) (xs.length : Int) = v := by
  simp [rd_nat, List.getD_eq_getElem?_getD]
theorem rd_take {xs : List Int} {i j : Nat} (h : j < i) : rd (xs.take i) (j : Int) = rd xs (j : Int) := by
  simp [rd_nat, List.getD_eq_getElem?_getD, List.getElem?_take, h]
theorem rd_drop {xs : List Int} {i j : Nat} : rd (xs.drop i) (j : Int) = rd xs ((i + j : Nat) : Int) := by
  simp only [rd_nat, List.getD_eq_getElem?_getD, List.getElem?_drop]
theorem toNat_cast (i : Nat) : ((i : Nat) : Int).toNat = i := Int.toNat_natCast i
theorem drop_cons {xs : List Int} {i : Nat} (h : i < xs.length) : xs.drop i = rd xs (i : Int) :: xs.drop (i + 1) := by
  rw [rd_get h]; exact List.drop_eq_getElem_cons h
theorem Ev_ite_t {α : Type} {c : Prop} [Decidable c] {f g : Nat → Option α} {r : α} (h : c) (k : Ev f r) : Ev (fun n => if c then f n else g n) r :=
  Ev.congr (fun _ => if_pos h) k
theorem Ev_ite_f {α : Type} {c : Prop} [Decidable c] {f g : Nat → Option α} {r : α} (h : ¬ c) (k : Ev g r) : Ev (fun n => if c then f n else g n) r :=
  Ev.congr (fun _ => if_neg h) k
theorem w64n (i : Nat) (h : i < 9223372036854775807) : wrap64 ((i : Int) + 1) = ((i + 1 : Nat) : Int) := by
  rw [w64 (by omega) (by omega)]; rfl
theorem wrap_add_wrap (a b : Int) : wrap64 (wrap64 a + b) = wrap64 (a + b) := by unfold wrap64; omega
theorem wrap_add_wrap' (a b : Int) : wrap64 (a + wrap64 b) = wrap64 (a + b) := by unfold wrap64; omega
theorem EvE_bind {α β : Type} {g : Nat → Option α} {f : Nat → α → Option β} {a : α} (h : Ev g a) (k : ∃ r, Ev (fun n => f n a) r) : ∃ r, Ev (fun n => (g n).bind (f n)) r := by
  obtain ⟨r, k⟩ := k
  exact ⟨r, Ev.bind h k⟩
theorem EvE_now {α : Type} (a : α) : ∃ r, Ev (fun _ : Nat => some a) r := ⟨a, Ev.now a⟩
theorem EvE_ite_t {α : Type} {c : Prop} [Decidable c] {f g : Nat → Option α} (h : c) (k : ∃ r, Ev f r) : ∃ r, Ev (fun n => if c then f n else g n) r := by
  obtain ⟨r, k⟩ := k
  exact ⟨r, Ev_ite_t h k⟩
theorem EvE_ite_f {α : Type} {c : Prop} [Decidable c] {f g : Nat → Option α} (h : ¬ c) (k : ∃ r, Ev g r) : ∃ r, Ev (fun n => if c then f n else g n) r := by
  obtain ⟨r, k⟩ := k
  exact ⟨r, Ev_ite_f h k⟩
theorem l01Has_ev (l : List Int) (x : Int) (hl : l.length ≤ 35184372088832) : Ev (fun k => spec_l01Has.f k l x) (decide (x ∈ l)) := by
  have loop : ∀ (d i : Nat), i + d = l.length → Ev (fun k => spec_l01Has.l0 k l x (i : Int)) (decide (x ∈ l.drop i)) := by
    intro d
    induction d with
    | zero =>
      intro i hi
      have e : decide (x ∈ l.drop i) = false := by rw [List.drop_of_length_le (by omega)]; simp
      rw [e]
      exact Ev.step (f := fun _ => some false) (fun k => by rw [spec_l01Has.l0, if_neg (by omega)]) (Ev.now _)
    | succ d ih =>
      intro i hi
      by_cases e : rd l (i : Int) = x
      · have e1 : decide (x ∈ l.drop i) = true := by rw [drop_cons (by omega)]; simp [e]
        rw [e1]
        exact Ev.step (f := fun _ => some true) (fun k => by rw [spec_l01Has.l0, if_pos (by omega), if_pos (by omega), if_pos e]) (Ev.now _)
      · have e1 : decide (x ∈ l.drop i) = decide (x ∈ l.drop (i + 1)) := by rw [drop_cons (by omega)]; simp [Ne.symm e]
        rw [e1]
        exact Ev.step (fun k => by rw [spec_l01Has.l0, if_pos (by omega), if_pos (by omega), if_neg e, w64n i (by omega)]) (ih (i + 1) (by omega))
  have := loop l.length 0 (by omega)
  rw [List.drop_zero] at this
  exact Ev.congr (fun k => rfl) this
theorem l01In_eq (n a b : Int) : spec_l01In.f n a b = some (decide (a ≤ n ∧ n ≤ b)) := by
  unfold spec_l01In.f
  by_cases h : n ≥ a
  · rw [if_pos h]; simp [show a ≤ n from h]
  · rw [if_neg h]; simp [show ¬ a ≤ n from h]
theorem inRange_eq (n a b : Int) : impl_inRange.f n a b = some (decide (a ≤ n ∧ n ≤ b)) := by
  unfold impl_inRange.f
  by_cases h : a ≤ n
  · rw [if_pos h]; simp [h]
  · rw [if_neg h]; simp [h]
def ordP (p : List Int) (i : Nat) : Prop := ∀ j : Nat, i ≤ j → j < p.length → 0 ≤ rd p (j : Int) ∧ rd p (j : Int) < p.length ∧ ∀ t : Nat, t < j → rd p (t : Int) ≠ rd p (j : Int)
theorem ordP_end {p : List Int} {i : Nat} (h : p.length ≤ i) : ordP p i := fun j hj hl => by omega
theorem ordP_succ {p : List Int} {i : Nat} (h : i < p.length) : ordP p i ↔ (0 ≤ rd p (i : Int) ∧ rd p (i : Int) < p.length ∧ ∀ t : Nat, t < i → rd p (t : Int) ≠ rd p (i : Int)) ∧ ordP p (i + 1) := by
  constructor
  · intro H
    exact ⟨H i (Nat.le_refl _) h, fun j hj hl => H j (by omega) hl⟩
  · rintro ⟨h1, h2⟩ j hj hl
    by_cases e : i = j
    · subst e; exact h1
    · exact h2 j (by omega) hl
noncomputable def isOrd (p : List Int) : Bool := @decide (p.length ≤ 64 ∧ ordP p 0) (Classical.propDecidable _)
theorem isOrd_iff {p : List Int} : isOrd p = true ↔ p.length ≤ 64 ∧ ordP p 0 := by unfold isOrd; exact @decide_eq_true_iff _ (Classical.propDecidable _)
theorem mem_take_iff (p : List Int) (i : Nat) (hi : i ≤ p.length) (x : Int) : x ∈ p.take i ↔ ∃ t : Nat, t < i ∧ rd p (t : Int) = x := by
  constructor
  · intro h
    obtain ⟨t, ht, e⟩ := List.mem_iff_getElem.1 h
    rw [List.length_take] at ht
    refine ⟨t, by omega, ?_⟩
    rw [rd_get (by omega), ← e, List.getElem_take]
  · rintro ⟨t, ht, e⟩
    rw [← e, ← rd_take ht]
    exact rd_mem (by rw [List.length_take]; omega)
theorem specIsOrder_ev (p : List Int) (hl : p.length ≤ 35184372088832) : Ev (fun k => spec_IsOrder.f k p) (isOrd p) := by
  have loop : ∀ (d i : Nat), i + d = p.length → ∀ b : Bool, (b = true ↔ p.length ≤ 64 ∧ ordP p i) → Ev (fun k => spec_IsOrder.l0 k p (i : Int)) b := by
    intro d
    induction d with
    | zero =>
      intro i hi b hb
      have e : b = decide ((p.length : Int) ≤ 64) := by
        rw [Bool.eq_iff_iff, hb, decide_eq_true_iff]
        constructor
        · rintro ⟨h, _⟩; omega
        · intro h; exact ⟨by omega, ordP_end (by omega)⟩
      rw [e]
      exact Ev.step (f := fun _ => some (decide ((p.length : Int) ≤ 64))) (fun k => by rw [spec_IsOrder.l0, if_neg (by omega)]) (Ev.now _)
    | succ d ih =>
      intro i hi b hb
      have hs := ordP_succ (p := p) (i := i) (by omega)
      refine Ev.step (f := fun k => (some (decide (0 ≤ rd p (i : Int) ∧ rd p (i : Int) ≤ (p.length : Int) - 1))).bind fun t => if t = true then (spec_l01Has.f k (p.take i) (rd p (i : Int))).bind fun t => if t = true then some false else spec_IsOrder.l0 k p ((i + 1 : Nat) : Int) else some false) (fun k => by
        rw [spec_IsOrder.l0, if_pos (by omega), if_pos (by omega), l01In_eq, w64 (x := (p.length : Int) - 1) (by omega) (by omega), w64n i (by omega), toNat_cast]
        simp only [Option.bind_some]
        rw [if_pos (show (i : Int) ≤ (p.length : Int) by omega)]) ?_
      simp only [Option.bind_some, decide_eq_true_eq]
      by_cases h1 : 0 ≤ rd p (i : Int) ∧ rd p (i : Int) ≤ (p.length : Int) - 1
      · refine Ev_ite_t h1 (Ev.bind (l01Has_ev (p.take i) (rd p (i : Int)) (by rw [List.length_take]; omega)) ?_)
        simp only [decide_eq_true_eq]
        by_cases h2 : rd p (i : Int) ∈ p.take i
        · obtain ⟨t, ht, e⟩ := (mem_take_iff p i (by omega) _).1 h2
          obtain rfl : b = false := by
            rw [Bool.eq_false_iff]; intro hbt
            exact (hs.1 (hb.1 hbt).2).1.2.2 t ht e
          exact Ev_ite_t h2 (Ev.now _)
        · refine Ev_ite_f h2 (ih (i + 1) (by omega) b ?_)
          rw [hb, hs]
          constructor
          · rintro ⟨a, _, c⟩; exact ⟨a, c⟩
          · rintro ⟨a, c⟩
            refine ⟨a, ⟨h1.1, by omega, fun t ht e => h2 ((mem_take_iff p i (by omega) _).2 ⟨t, ht, e⟩)⟩, c⟩
      · obtain rfl : b = false := by
          rw [Bool.eq_false_iff]; intro hbt
          have := (hs.1 (hb.1 hbt).2).1
          exact h1 ⟨this.1, by omega⟩
        exact Ev_ite_f h1 (Ev.now _)
  exact Ev.congr (fun k => rfl) (loop p.length 0 (by omega) _ isOrd_iff)
theorem rdOf_set {α : Type} {z : α} {xs : List α} {i j : Nat} {v : α} (hi : i < xs.length) : rdOf z (xs.set i v) (j : Int) = if i = j then v else rdOf z xs (j : Int) := by
  simp only [rdOf, toNat_cast, List.getD_eq_getElem?_getD, List.getElem?_set]
  by_cases h : i = j
  · subst h; simp [hi]
  · simp [h]
theorem implIsOrder_ev (p : List Int) (hl : p.length ≤ 35184372088832) : Ev (fun k => impl_IsOrder.f k p) (isOrd p) := by
  by_cases h64 : p.length ≤ 64
  · have loop : ∀ (d i : Nat), i + d = p.length → ∀ seen : List Bool, seen.length = p.length → (∀ v : Nat, v < p.length → (rdOf false seen (v : Int) = true ↔ ∃ t : Nat, t < i ∧ rd p (t : Int) = v)) →
        ∀ b : Bool, (b = true ↔ ordP p i) → Ev (fun k => impl_IsOrder.l0 k p seen p (p.length : Int) (i : Int)) b := by
      intro d
      induction d with
      | zero =>
        intro i hi seen _ _ b hb
        obtain rfl : b = true := hb.2 (ordP_end (by omega))
        exact Ev.step (f := fun _ => some true) (fun k => by rw [impl_IsOrder.l0, if_neg (by omega)]) (Ev.now _)
      | succ d ih =>
        intro i hi seen hsl hseen b hb
        have hs := ordP_succ (p := p) (i := i) (by omega)
        refine Ev.step (f := fun k => (some (decide (0 ≤ rd p (i : Int) ∧ rd p (i : Int) ≤ (p.length : Int) - 1))).bind fun t => if t = true then (if 0 ≤ rd p (i : Int) then (if rd p (i : Int) < (seen.length : Int) then (if rdOf false seen (rd p (i : Int)) = true then some false else impl_IsOrder.l0 k p (seen.set (rd p (i : Int)).toNat true) p (p.length : Int) ((i + 1 : Nat) : Int)) else none) else none) else some false) (fun k => by
          rw [impl_IsOrder.l0, if_pos (by omega), if_pos (by omega), if_pos (by omega), impl_length_int64.f]
          simp only [Option.bind_some]
          rw [inRange_eq, w64 (x := (p.length : Int) - 1) (by omega) (by omega), w64n i (by omega)]; rfl) ?_
        simp only [Option.bind_some, decide_eq_true_eq]
        by_cases h1 : 0 ≤ rd p (i : Int) ∧ rd p (i : Int) ≤ (p.length : Int) - 1
        · obtain ⟨v, hv⟩ := Int.eq_ofNat_of_zero_le h1.1
          refine Ev_ite_t h1 (Ev_ite_t h1.1 (Ev_ite_t (by omega) ?_))
          rw [hv, toNat_cast]
          rw [hv] at h1 hs
          have hsv := hseen v (by omega)
          by_cases h2 : rdOf false seen (v : Int) = true
          · obtain ⟨t, ht, e⟩ := hsv.1 h2
            obtain rfl : b = false := by
              rw [Bool.eq_false_iff]; intro hbt
              exact (hs.1 (hb.1 hbt)).1.2.2 t ht e
            exact Ev_ite_t h2 (Ev.now _)
          · refine Ev_ite_f h2 (ih (i + 1) (by omega) _ (by rw [List.length_set]; exact hsl) (fun u hu => ?_) b ?_)
            · rw [rdOf_set (by omega)]
              by_cases e : v = u
              · subst e
                simp only [if_true, true_iff]
                exact ⟨i, by omega, hv⟩
              · rw [if_neg e, hseen u hu]
                constructor
                · rintro ⟨t, ht, et⟩; exact ⟨t, by omega, et⟩
                · rintro ⟨t, ht, et⟩
                  by_cases e2 : t = i
                  · subst e2; rw [hv] at et; omega
                  · exact ⟨t, by omega, et⟩
            · rw [hb, hs]
              constructor
              · rintro ⟨_, c⟩; exact c
              · intro c
                refine ⟨⟨h1.1, by omega, fun t ht e => h2 (hsv.2 ⟨t, ht, e⟩)⟩, c⟩
        · obtain rfl : b = false := by
            rw [Bool.eq_false_iff]; intro hbt
            have := (hs.1 (hb.1 hbt)).1
            exact h1 ⟨this.1, by omega⟩
          exact Ev_ite_f h1 (Ev.now _)
    refine Ev.congr (fun k => ?_) (loop p.length 0 (by omega) (List.replicate p.length false) (by simp) (fun v hv => ?_) (isOrd p) (by rw [isOrd_iff]; exact ⟨fun h => h.2, fun h => ⟨h64, h⟩⟩))
    · simp only [impl_IsOrder.f, toNat_cast]
      rw [if_neg (by omega), if_pos (by omega), if_pos (by omega)]
      rfl
    · constructor
      · intro h; simp [rdOf, List.getD_eq_getElem?_getD, List.getElem?_replicate, hv] at h
      · rintro ⟨t, ht, _⟩; omega
  · obtain e : isOrd p = false := by
      rw [Bool.eq_false_iff]; intro h; exact h64 (isOrd_iff.1 h).1
    rw [e]
    refine Ev.congr (f := fun _ => some false) (fun k => ?_) (Ev.now _)
    simp only [impl_IsOrder.f]
    rw [if_pos (by omega)]
def turnL (l : List Int) : List Int := (l.map fun x => wrap64 (-x)).reverse
theorem turn_gen (F : Nat → List Int → List Int → Int → Option (List Int)) (hF : ∀ k x0 x3 x4, F (k + 1) x0 x3 x4 = if x4 ≥ 0 then (if 0 ≤ x4 then (if x4 < (x0.length : Int) then (if x3.length < 17592186044416 then (F k x0 (x3 ++ [wrap64 (-(rd x0 x4))]) (wrap64 (x4 - 1))) else (none)) else (none)) else (none)) else (some x3)) (l : List Int) (hl : l.length ≤ 8796093022208) : Ev (fun k => F k l [] (wrap64 ((l.length : Int) - 1))) (turnL l) := by
  have loop : ∀ (m : Nat), m ≤ l.length → ∀ acc : List Int, acc.length + m ≤ l.length → Ev (fun k => F k l acc ((m : Int) - 1)) (acc ++ turnL (l.take m)) := by
    intro m
    induction m with
    | zero =>
      intro _ acc _
      have e : acc ++ turnL (l.take 0) = acc := by simp [turnL]
      rw [e]
      exact Ev.step (f := fun _ => some acc) (fun k => by rw [hF, if_neg (by omega)]) (Ev.now _)
    | succ m ih =>
      intro hm acc ha
      have e : acc ++ turnL (l.take (m + 1)) = (acc ++ [wrap64 (-(rd l (m : Int)))]) ++ turnL (l.take m) := by
        unfold turnL
        rw [List.take_succ_eq_append_getElem (show m < l.length by omega), List.map_append, List.reverse_append, rd_get (show m < l.length by omega), List.append_assoc]
        rfl
      rw [e]
      refine Ev.step (fun k => ?_) (ih (by omega) (acc ++ [wrap64 (-(rd l (m : Int)))]) (by rw [List.length_append, List.length_singleton]; omega))
      have e2 : ((m + 1 : Nat) : Int) - 1 = (m : Int) := by omega
      rw [e2, hF, if_pos (by omega), if_pos (by omega), if_pos (by omega), if_pos (by omega), w64 (x := (m : Int) - 1) (by omega) (by omega)]
  have h := loop l.length (Nat.le_refl _) [] (by simp)
  rw [List.nil_append, List.take_length] at h
  rw [w64 (x := (l.length : Int) - 1) (by omega) (by omega)]
  exact h
theorem turnL_len (l : List Int) : (turnL l).length = l.length := by simp [turnL]
def plc (x : Int) : Int := wrap64 (mx x (wrap64 (-x)) - 1)
theorem stack_both (l : List Int) (hl : l.length ≤ 8796093022208) : ∃ b : Bool, Ev (fun k => spec_l03List.f k l) b ∧ Ev (fun k => impl_isStack.f k l) b ∧ (b = true → (∀ x ∈ l, -64 ≤ x ∧ x ≤ 64) ∧ 0 < l.length ∧ isOrd (l.map plc) = true) := by
  have loop : ∀ (d i : Nat), i + d = l.length → (∀ j : Nat, j < i → -64 ≤ rd l (j : Int) ∧ rd l (j : Int) ≤ 64) → ∃ b : Bool, Ev (fun k => spec_l03List.l0 k l ((l.take i).map plc) (i : Int)) b ∧ Ev (fun k => impl_isStack.l0 k l ((l.take i).map plc) l (l.length : Int) (i : Int)) b ∧
      (b = true → (∀ j : Nat, j < l.length → -64 ≤ rd l (j : Int) ∧ rd l (j : Int) ≤ 64) ∧ 0 < l.length ∧ isOrd (l.map plc) = true) := by
    intro d
    induction d with
    | zero =>
      intro i hi hr
      obtain rfl : i = l.length := by omega
      rw [List.take_length]
      have lm : (l.map plc).length = l.length := by simp
      by_cases h0 : (l.length : Int) > 0
      · refine ⟨isOrd (l.map plc), ?_, ?_, fun h => ⟨hr, by omega, h⟩⟩
        · exact Ev.step (f := fun k => (spec_IsOrder.f k (l.map plc)).bind fun t => some t) (fun k => by rw [spec_l03List.l0, if_neg (by omega), if_pos h0]) (Ev.bind (specIsOrder_ev _ (by omega)) (Ev.now _))
        · exact Ev.step (f := fun k => (impl_IsOrder.f k (l.map plc)).bind fun t => some t) (fun k => by rw [impl_isStack.l0, if_neg (by omega), if_pos h0]) (Ev.bind (implIsOrder_ev _ (by omega)) (Ev.now _))
      · exact ⟨false, Ev.step (f := fun _ => some false) (fun k => by rw [spec_l03List.l0, if_neg (by omega), if_neg h0]) (Ev.now _), Ev.step (f := fun _ => some false) (fun k => by rw [impl_isStack.l0, if_neg (by omega), if_neg h0]) (Ev.now _), fun h => by cases h⟩
    | succ d ih =>
      intro i hi hr
      have lt : ((l.take i).map plc).length = i := by rw [List.length_map, List.length_take]; omega
      by_cases h : -64 ≤ rd l (i : Int) ∧ rd l (i : Int) ≤ 64
      · obtain ⟨b, h1, h2, h3⟩ := ih (i + 1) (by omega) (fun j hj => by
          by_cases e : j = i
          · subst e; exact h
          · exact hr j (by omega))
        have e : (l.take (i + 1)).map plc = (l.take i).map plc ++ [wrap64 (mx (rd l (i : Int)) (wrap64 (-(rd l (i : Int)))) - 1)] := by
          rw [List.take_succ_eq_append_getElem (show i < l.length by omega), List.map_append, rd_get (show i < l.length by omega)]
          rfl
        rw [e] at h1 h2
        refine ⟨b, Ev.step (fun k => ?_) h1, Ev.step (fun k => ?_) h2, h3⟩
        · rw [spec_l03List.l0, if_pos (by omega), if_pos (by omega), l01In_eq]
          simp only [Option.bind_some, decide_eq_true_eq]
          rw [if_pos h, if_pos (by omega), w64n i (by omega)]
        · rw [impl_isStack.l0, if_pos (by omega), if_pos (by omega), if_pos (by omega), inRange_eq]
          simp only [Option.bind_some, decide_eq_true_eq]
          rw [if_pos h, if_pos (by omega), w64n i (by omega)]
      · refine ⟨false, Ev.step (f := fun _ => some false) (fun k => ?_) (Ev.now _), Ev.step (f := fun _ => some false) (fun k => ?_) (Ev.now _), fun h => by cases h⟩
        · rw [spec_l03List.l0, if_pos (by omega), if_pos (by omega), l01In_eq]
          simp only [Option.bind_some, decide_eq_true_eq]
          rw [if_neg h]
        · rw [impl_isStack.l0, if_pos (by omega), if_pos (by omega), if_pos (by omega), inRange_eq]
          simp only [Option.bind_some, decide_eq_true_eq]
          rw [if_neg h]
  obtain ⟨b, h1, h2, h3⟩ := loop l.length 0 (by omega) (fun j hj => by omega)
  refine ⟨b, Ev.congr (fun k => rfl) h1, Ev.congr (fun k => rfl) h2, fun h => ?_⟩
  obtain ⟨a1, a2, a3⟩ := h3 h
  refine ⟨fun x hx => ?_, a2, a3⟩
  obtain ⟨j, hj, rfl⟩ := List.mem_iff_getElem.1 hx
  have := a1 j hj
  rw [rd_get hj] at this
  exact this
theorem turnStack_both (l : List Int) (hl : l.length ≤ 8796093022208) : ∃ r : List Int × Int, r.1.length ≤ l.length ∧ Ev (fun k => spec_TurnStack.f k l) r ∧ Ev (fun k => impl_TurnStack.f k l) r ∧ ((r.2 = 0 ∧ r.1 = turnL l ∧ (∀ x ∈ l, -64 ≤ x ∧ x ≤ 64) ∧ 0 < l.length ∧ isOrd (l.map plc) = true) ∨ r = ([], 1)) := by
  obtain ⟨b, h1, h2, h3⟩ := stack_both l hl
  have t1 : Ev (fun k => spec_l03Turn.f k l) (turnL l) := turn_gen (fun k => spec_l03Turn.l0 k) (fun k x0 x3 x4 => by rw [spec_l03Turn.l0]) l hl
  have t2 : Ev (fun k => impl_turned.f k l) (turnL l) := turn_gen (fun k => impl_turned.l0 k) (fun k x0 x3 x4 => by rw [impl_turned.l0]) l hl
  unfold spec_TurnStack.f impl_TurnStack.f
  cases b with
  | true =>
    obtain ⟨a1, a2, a3⟩ := h3 rfl
    exact ⟨(turnL l, 0), by rw [turnL_len]; exact Nat.le_refl _, Ev.bind h1 (Ev_ite_t rfl (Ev.bind t1 (Ev.now _))), Ev.bind h2 (Ev_ite_t rfl (Ev.bind t2 (Ev.now _))), .inl ⟨rfl, rfl, a1, a2, a3⟩⟩
  | false => exact ⟨([], 1), by simp, Ev.bind h1 (Ev_ite_f (by simp) (Ev.now _)), Ev.bind h2 (Ev_ite_f (by simp) (Ev.now _)), .inr rfl⟩
theorem toInt64S_ev (l : List Int) (hl : l.length ≤ 35184372088832) : Ev (fun k => laws_toInt64S.f k l) l := by
  have loop : ∀ (d i : Nat), i + d = l.length → ∀ x : List Int, x.length = l.length → (∀ j : Nat, j < i → rd x (j : Int) = rd l (j : Int)) → Ev (fun k => laws_toInt64S.l0 k l x (i : Int)) l := by
    intro d
    induction d with
    | zero =>
      intro i hi x hx h
      obtain rfl : x = l := rd_ext hx (fun j hj => h j (by omega))
      refine Ev.step (f := fun _ => some x) (fun k => by rw [laws_toInt64S.l0, if_neg (by omega)]) (Ev.now _)
    | succ d ih =>
      intro i hi x hx h
      refine Ev.step (f := fun k => laws_toInt64S.l0 k l (x.set i (rd l (i : Int))) ((i + 1 : Nat) : Int)) (fun k => by rw [laws_toInt64S.l0, if_pos (by omega), if_pos (by omega), if_pos (by omega), w64n i (by omega), toNat_cast]) ?_
      refine ih (i + 1) (by omega) _ (by rw [List.length_set]; exact hx) (fun j hj => ?_)
      rw [rd_set (by omega)]
      by_cases e : i = j
      · rw [if_pos e, e]
      · rw [if_neg e]; exact h j (by omega)
  refine Ev.congr (f := fun k => laws_toInt64S.l0 k l (List.replicate l.length 0) ((0 : Nat) : Int)) (fun k => ?_) (loop l.length 0 (by omega) _ (by simp) (fun j hj => by omega))
  simp only [laws_toInt64S.f, toNat_cast]
  rw [if_pos (by omega), if_pos (by omega)]
  rfl
theorem eqInt64S_ev (l : List Int) (hl : l.length ≤ 35184372088832) : Ev (fun k => laws_eqInt64S.f k l l) true := by
  have loop : ∀ (d i : Nat), i + d = l.length → Ev (fun k => laws_eqInt64S.l0 k l l (i : Int)) true := by
    intro d
    induction d with
    | zero =>
      intro i hi
      refine Ev.step (f := fun _ => some true) (fun k => by rw [laws_eqInt64S.l0, if_neg (by omega)]) (Ev.now _)
    | succ d ih =>
      intro i hi
      refine Ev.step (f := fun k => laws_eqInt64S.l0 k l l ((i + 1 : Nat) : Int)) (fun k => by rw [laws_eqInt64S.l0, if_pos (by omega), if_pos (by omega), if_pos (by omega), if_pos rfl, w64n i (by omega)]) ?_
      exact ih (i + 1) (by omega)
  refine Ev.congr (f := fun k => laws_eqInt64S.l0 k l l ((0 : Nat) : Int)) (fun k => ?_) (loop l.length 0 (by omega))
  simp only [laws_eqInt64S.f, if_true]
  rfl
theorem markInt64S_ev (l : List Int) (q : Int) (hl : l.length ≤ 35184372088832) (hq : 0 ≤ q) (hq1 : q ≤ 1000000000000000000) :
    ∃ x : List Int, x.length = l.length ∧ (∀ j : Nat, j < l.length → rd x (j : Int) = q + j) ∧ Ev (fun k => laws_markInt64S.f k l q) (q + l.length, x) := by
  have loop : ∀ (d i : Nat), i + d = l.length → ∀ x : List Int, x.length = l.length → (∀ j : Nat, j < i → rd x (j : Int) = q + j) →
      ∃ y : List Int, y.length = l.length ∧ (∀ j : Nat, j < l.length → rd y (j : Int) = q + j) ∧ Ev (fun k => laws_markInt64S.l0 k x (q + i) (i : Int)) (q + l.length, y) := by
    intro d
    induction d with
    | zero =>
      intro i hi x hx h
      obtain rfl : i = l.length := by omega
      exact ⟨x, hx, h, Ev.step (f := fun _ => some (q + l.length, x)) (fun k => by rw [laws_markInt64S.l0, if_neg (by omega)]) (Ev.now _)⟩
    | succ d ih =>
      intro i hi x hx h
      obtain ⟨y, h1, h2, h3⟩ := ih (i + 1) (by omega) (x.set i (q + i)) (by rw [List.length_set]; exact hx) (fun j hj => by
        rw [rd_set (by omega)]
        by_cases e : i = j
        · rw [if_pos e, e]
        · rw [if_neg e]; exact h j (by omega))
      refine ⟨y, h1, h2, Ev.step (fun k => ?_) h3⟩
      have e1 : wrap64 (q + (i : Int) + 1) = q + ((i + 1 : Nat) : Int) := by rw [w64 (by omega) (by omega)]; omega
      rw [laws_markInt64S.l0, if_pos (by omega), if_pos (by omega), w64n i (by omega), toNat_cast, e1]
  obtain ⟨y, h1, h2, h3⟩ := loop l.length 0 (by omega) l rfl (fun j hj => by omega)
  refine ⟨y, h1, h2, Ev.congr (fun k => ?_) h3⟩
  simp only [laws_markInt64S.f]
  rw [show q + ((0 : Nat) : Int) = q by omega]
  rfl
theorem heldInt64S_ev (x : List Int) (n : Nat) (q : Int) (hx : x.length = n) (h : ∀ j : Nat, j < n → rd x (j : Int) = q + j) (hl : n ≤ 35184372088832) (hq : 0 ≤ q) (hq1 : q ≤ 1000000000000000000) :
    Ev (fun k => laws_heldInt64S.f k x q) (q + n) := by
  have loop : ∀ (d i : Nat), i + d = n → Ev (fun k => laws_heldInt64S.l0 k x (q + i) (i : Int)) (q + n) := by
    intro d
    induction d with
    | zero =>
      intro i hi
      obtain rfl : i = n := by omega
      exact Ev.step (f := fun _ => some (q + (i : Int))) (fun k => by rw [laws_heldInt64S.l0, if_neg (by omega)]) (Ev.now _)
    | succ d ih =>
      intro i hi
      refine Ev.step (fun k => ?_) (ih (i + 1) (by omega))
      have e1 : wrap64 (q + (i : Int) + 1) = q + ((i + 1 : Nat) : Int) := by rw [w64 (by omega) (by omega)]; omega
      rw [laws_heldInt64S.l0, if_pos (by omega), if_pos (by omega), if_pos (h i (by omega)), w64n i (by omega), e1]
  refine Ev.congr (fun k => ?_) (loop n 0 (by omega))
  simp only [laws_heldInt64S.f]
  rw [show q + ((0 : Nat) : Int) = q by omega]
  rfl
theorem FnExactTurnStack : laws_FnExactTurnStack.Pure := by
  intro l hl h8 hw
  apply Ev.rounds
  unfold laws_FnExactTurnStack.f
  by_cases hb : (l.length : Int) > 1048576
  · exact Ev_ite_t hb (Ev.now _)
  · have t := toInt64S_ev l (by omega)
    obtain ⟨r, hrl, hs, hi, _⟩ := turnStack_both l (by omega)
    obtain ⟨x, x1, x2, x3⟩ := markInt64S_ev r.1 1 (by omega) (by omega) (by omega)
    have hh := heldInt64S_ev x r.1.length 1 x1 x2 (by omega) (by omega) (by omega)
    obtain ⟨y, y1, y2, y3⟩ := markInt64S_ev l 1 (by omega) (by omega) (by omega)
    refine Ev_ite_f hb (Ev.bind t (Ev.bind hs (Ev.bind t (Ev.bind hi (Ev.bind (eqInt64S_ev r.1 (by omega)) (Ev_ite_t rfl ?_))))))
    refine Ev.step (fun k => by rw [laws_FnExactTurnStack.j0, if_neg (by simp)]) ?_
    refine Ev.bind t (Ev.bind (eqInt64S_ev l (by omega)) (Ev_ite_t rfl (Ev.bind y3 (Ev_ite_f (by omega) (Ev.bind (eqInt64S_ev r.1 (by omega)) (Ev_ite_t rfl ?_))))))
    refine Ev.step (fun k => by rw [laws_FnExactTurnStack.j1, if_neg (by simp)]) ?_
    refine Ev.bind x3 (Ev.bind hh (Ev_ite_f (by omega) (Ev_ite_t rfl (Ev.bind t (Ev.bind hi (Ev.bind (eqInt64S_ev r.1 (by omega)) (Ev_ite_t rfl ?_)))))))
    refine Ev.step (fun k => by rw [laws_FnExactTurnStack.j2, if_neg (by simp)]) ?_
    exact Ev.bind hh (Ev_ite_f (by omega) (Ev_ite_t rfl (Ev.now _)))

end Go.Proofs.Ytojdgflmmbndaaa.Pure
