/- The pure statement of FnExactFindFolds: for every input that the row lets in, the law's Lean function answers true; no further condition. -/
import Derived.Test.YtjlklieoibhblaaQFnExactFindFoldsx7
set_option linter.unusedVariables false
set_option linter.unusedSimpArgs false
namespace Go.Proofs.Ytjlklieoibhblaa.Pure
open Go.RowKit Go.Proofs.Ytjlklieoibhblaa.QFnExactFindFolds Go.Proofs.YtjlklieoibhblaaW.PrintWords Go.Proofs.YtjlklieoibhblaaW.PrintLast

theorem w64 {x : Int} (h0 : -9223372036854775808 ≤ x) (h1 : x ≤ 9223372036854775807) : wrap64 x = x := by unfold wrap64; omega
theorem wz : wrap64 0 = 0 := w64 (by omega) (by omega)
theorem w64_range (x : Int) : -9223372036854775808 ≤ wrap64 x ∧ wrap64 x ≤ 9223372036854775807 := by unfold wrap64; omega
theorem wf64 {x : Int} (h : (Lit.int .i64 x).wf = true) : -9223372036854775808 ≤ x ∧ x ≤ 9223372036854775807 := by
  have h' : (decide (IntKind.i64.min ≤ x) && decide (x ≤ IntKind.i64.max)) = true := h
  simp only [Bool.and_eq_true, decide_eq_true_eq] at h'
  exact h'
theorem wf8 {x : Int} (h : (Lit.int .u8 x).wf = true) : 0 ≤ x ∧ x ≤ 255 := by
  have h' : (decide (IntKind.u8.min ≤ x) && decide (x ≤ IntKind.u8.max)) = true := h
  simp only [Bool.and_eq_true, decide_eq_true_eq] at h'
  exact h'
theorem rd_get {xs : List Int} {i : Nat} (h : i < xs.length) : rd xs (i : Int) = xs[i] := by
  simp [rd, List.getD_eq_getElem?_getD, h]
theorem rd_nat (xs : List Int) (i : Nat) : rd xs (i : Int) = xs.getD i 0 := by simp [rd]
theorem rd_mem {xs : List Int} {i : Nat} (h : i < xs.length) : rd xs (i : Int) ∈ xs := by rw [rd_get h]; exact List.getElem_mem h
theorem rd_ext {xs ys : List Int} (hl : xs.length = ys.length) (h : ∀ i : Nat, i < xs.length → rd xs (i : Int) = rd ys (i : Int)) : xs = ys := by
  apply List.ext_getElem hl
  intro i h1 h2
  have := h i h1
  rwa [rd_get h1, rd_get h2] at this
theorem rd_set {xs : List Int} {i j : Nat} {v : Int} (hi : i < xs.length) : rd (xs.set i v) (j : Int) = if i = j then v else rd xs (j : Int) := by
  simp only [rd_nat, List.getD_eq_getElem?_getD, List.getElem?_set]
  by_cases h : i = j
  · subst h; simp [hi]
  · simp [h]
theorem rd_append_left {xs ys : List Int} {j : Nat} (h : j < xs.length) : rd (xs ++ ys) (j : Int) = rd xs (j : Int) := by
  simp only [rd_nat, List.getD_eq_getElem?_getD, List.getElem?_append_left h]
theorem rd_append_at {xs : List Int} {v : Int} : rd (xs ++ [v]) (xs.length : Int) = v := by
  simp [rd_nat, List.getD_eq_getElem?_getD]
theorem rd_take {xs : List Int} {i j : Nat} (h : j < i) : rd (xs.take i) (j : Int) = rd xs (j : Int) := by
  simp [rd_nat, List.getD_eq_getElem?_getD, List.getElem?_take, h]
theorem rd_drop {xs : List Int} {i j : Nat} : rd (xs.drop i) (j : Int) = rd xs ((i + j : Nat) : Int) := by
  simp only [rd_nat, List.getD_eq_getElem?_getD, List.getElem?_drop]
theorem toNat_cast (i : Nat) : ((i : Nat) : Int).toNat = i := Int.toNat_natCast i
theorem drop_cons {xs : List Int} {i : Nat} (h : i < xs.length) : xs.drop i = rd xs (i : Int) :: xs.drop (i + 1) := by
  rw [rd_get h]; exact List.drop_eq_getElem_cons h
theorem Ev_ite_t {α : Type} {c : Prop} [Decidable c] {f g : Nat → Option α} {r : α} (h : c) (k : Ev f r) : Ev (fun n => if c then f n else g n) r :=
  Ev.congr (fun _ => if_pos h) k
theorem Ev_ite_f {α : Type} {c : Prop} [Decidable c] {f g : Nat → Option α} {r : α} (h : ¬ c) (k : Ev g r) : Ev (fun n => if c then f n else g n) r :=
  Ev.congr (fun _ => if_neg h) k
theorem w64n (i : Nat) (h : i < 9223372036854775807) : wrap64 ((i : Int) + 1) = ((i + 1 : Nat) : Int) := by
  rw [w64 (by omega) (by omega)]; rfl
theorem wrap_add_wrap (a b : Int) : wrap64 (wrap64 a + b) = wrap64 (a + b) := by unfold wrap64; omega
theorem wrap_add_wrap' (a b : Int) : wrap64 (a + wrap64 b) = wrap64 (a + b) := by unfold wrap64; omega
theorem EvE_bind {α β : Type} {g : Nat → Option α} {f : Nat → α → Option β} {a : α} (h : Ev g a) (k : ∃ r, Ev (fun n => f n a) r) : ∃ r, Ev (fun n => (g n).bind (f n)) r := by
  obtain ⟨r, k⟩ := k
  exact ⟨r, Ev.bind h k⟩
theorem EvE_now {α : Type} (a : α) : ∃ r, Ev (fun _ : Nat => some a) r := ⟨a, Ev.now a⟩
theorem EvE_ite_t {α : Type} {c : Prop} [Decidable c] {f g : Nat → Option α} (h : c) (k : ∃ r, Ev f r) : ∃ r, Ev (fun n => if c then f n else g n) r := by
  obtain ⟨r, k⟩ := k
  exact ⟨r, Ev_ite_t h k⟩
theorem EvE_ite_f {α : Type} {c : Prop} [Decidable c] {f g : Nat → Option α} (h : ¬ c) (k : ∃ r, Ev g r) : ∃ r, Ev (fun n => if c then f n else g n) r := by
  obtain ⟨r, k⟩ := k
  exact ⟨r, Ev_ite_f h k⟩
theorem l01Has_ev (l : List Int) (x : Int) (hl : l.length ≤ 35184372088832) : Ev (fun k => spec_l01Has.f k l x) (decide (x ∈ l)) := by
  have loop : ∀ (d i : Nat), i + d = l.length → Ev (fun k => spec_l01Has.l0 k l x (i : Int)) (decide (x ∈ l.drop i)) := by
    intro d
    induction d with
    | zero =>
      intro i hi
      have e : decide (x ∈ l.drop i) = false := by rw [List.drop_of_length_le (by omega)]; simp
      rw [e]
      exact Ev.step (f := fun _ => some false) (fun k => by rw [spec_l01Has.l0, if_neg (by omega)]) (Ev.now _)
    | succ d ih =>
      intro i hi
      by_cases e : rd l (i : Int) = x
      · have e1 : decide (x ∈ l.drop i) = true := by rw [drop_cons (by omega)]; simp [e]
        rw [e1]
        exact Ev.step (f := fun _ => some true) (fun k => by rw [spec_l01Has.l0, if_pos (by omega), if_pos (by omega), if_pos e]) (Ev.now _)
      · have e1 : decide (x ∈ l.drop i) = decide (x ∈ l.drop (i + 1)) := by rw [drop_cons (by omega)]; simp [Ne.symm e]
        rw [e1]
        exact Ev.step (fun k => by rw [spec_l01Has.l0, if_pos (by omega), if_pos (by omega), if_neg e, w64n i (by omega)]) (ih (i + 1) (by omega))
  have := loop l.length 0 (by omega)
  rw [List.drop_zero] at this
  exact Ev.congr (fun k => rfl) this
theorem l01In_eq (n a b : Int) : spec_l01In.f n a b = some (decide (a ≤ n ∧ n ≤ b)) := by
  unfold spec_l01In.f
  by_cases h : n ≥ a
  · rw [if_pos h]; simp [show a ≤ n from h]
  · rw [if_neg h]; simp [show ¬ a ≤ n from h]
theorem inRange_eq (n a b : Int) : impl_inRange.f n a b = some (decide (a ≤ n ∧ n ≤ b)) := by
  unfold impl_inRange.f
  by_cases h : a ≤ n
  · rw [if_pos h]; simp [h]
  · rw [if_neg h]; simp [h]
def ordP (p : List Int) (i : Nat) : Prop := ∀ j : Nat, i ≤ j → j < p.length → 0 ≤ rd p (j : Int) ∧ rd p (j : Int) < p.length ∧ ∀ t : Nat, t < j → rd p (t : Int) ≠ rd p (j : Int)
theorem ordP_end {p : List Int} {i : Nat} (h : p.length ≤ i) : ordP p i := fun j hj hl => by omega
theorem ordP_succ {p : List Int} {i : Nat} (h : i < p.length) : ordP p i ↔ (0 ≤ rd p (i : Int) ∧ rd p (i : Int) < p.length ∧ ∀ t : Nat, t < i → rd p (t : Int) ≠ rd p (i : Int)) ∧ ordP p (i + 1) := by
  constructor
  · intro H
    exact ⟨H i (Nat.le_refl _) h, fun j hj hl => H j (by omega) hl⟩
  · rintro ⟨h1, h2⟩ j hj hl
    by_cases e : i = j
    · subst e; exact h1
    · exact h2 j (by omega) hl
noncomputable def isOrd (p : List Int) : Bool := @decide (p.length ≤ 64 ∧ ordP p 0) (Classical.propDecidable _)
theorem isOrd_iff {p : List Int} : isOrd p = true ↔ p.length ≤ 64 ∧ ordP p 0 := by unfold isOrd; exact @decide_eq_true_iff _ (Classical.propDecidable _)
theorem mem_take_iff (p : List Int) (i : Nat) (hi : i ≤ p.length) (x : Int) : x ∈ p.take i ↔ ∃ t : Nat, t < i ∧ rd p (t : Int) = x := by
  constructor
  · intro h
    obtain ⟨t, ht, e⟩ := List.mem_iff_getElem.1 h
    rw [List.length_take] at ht
    refine ⟨t, by omega, ?_⟩
    rw [rd_get (by omega), ← e, List.getElem_take]
  · rintro ⟨t, ht, e⟩
    rw [← e, ← rd_take ht]
    exact rd_mem (by rw [List.length_take]; omega)
theorem specIsOrder_ev (p : List Int) (hl : p.length ≤ 35184372088832) : Ev (fun k => spec_IsOrder.f k p) (isOrd p) := by
  have loop : ∀ (d i : Nat), i + d = p.length → ∀ b : Bool, (b = true ↔ p.length ≤ 64 ∧ ordP p i) → Ev (fun k => spec_IsOrder.l0 k p (i : Int)) b := by
    intro d
    induction d with
    | zero =>
      intro i hi b hb
      have e : b = decide ((p.length : Int) ≤ 64) := by
        rw [Bool.eq_iff_iff, hb, decide_eq_true_iff]
        constructor
        · rintro ⟨h, _⟩; omega
        · intro h; exact ⟨by omega, ordP_end (by omega)⟩
      rw [e]
      exact Ev.step (f := fun _ => some (decide ((p.length : Int) ≤ 64))) (fun k => by rw [spec_IsOrder.l0, if_neg (by omega)]) (Ev.now _)
    | succ d ih =>
      intro i hi b hb
      have hs := ordP_succ (p := p) (i := i) (by omega)
      refine Ev.step (f := fun k => (some (decide (0 ≤ rd p (i : Int) ∧ rd p (i : Int) ≤ (p.length : Int) - 1))).bind fun t => if t = true then (spec_l01Has.f k (p.take i) (rd p (i : Int))).bind fun t => if t = true then some false else spec_IsOrder.l0 k p ((i + 1 : Nat) : Int) else some false) (fun k => by
        rw [spec_IsOrder.l0, if_pos (by omega), if_pos (by omega), l01In_eq, w64 (x := (p.length : Int) - 1) (by omega) (by omega), w64n i (by omega), toNat_cast]
        simp only [Option.bind_some]
        rw [if_pos (show (i : Int) ≤ (p.length : Int) by omega)]) ?_
      simp only [Option.bind_some, decide_eq_true_eq]
      by_cases h1 : 0 ≤ rd p (i : Int) ∧ rd p (i : Int) ≤ (p.length : Int) - 1
      · refine Ev_ite_t h1 (Ev.bind (l01Has_ev (p.take i) (rd p (i : Int)) (by rw [List.length_take]; omega)) ?_)
        simp only [decide_eq_true_eq]
        by_cases h2 : rd p (i : Int) ∈ p.take i
        · obtain ⟨t, ht, e⟩ := (mem_take_iff p i (by omega) _).1 h2
          obtain rfl : b = false := by
            rw [Bool.eq_false_iff]; intro hbt
            exact (hs.1 (hb.1 hbt).2).1.2.2 t ht e
          exact Ev_ite_t h2 (Ev.now _)
        · refine Ev_ite_f h2 (ih (i + 1) (by omega) b ?_)
          rw [hb, hs]
          constructor
          · rintro ⟨a, _, c⟩; exact ⟨a, c⟩
          · rintro ⟨a, c⟩
            refine ⟨a, ⟨h1.1, by omega, fun t ht e => h2 ((mem_take_iff p i (by omega) _).2 ⟨t, ht, e⟩)⟩, c⟩
      · obtain rfl : b = false := by
          rw [Bool.eq_false_iff]; intro hbt
          have := (hs.1 (hb.1 hbt).2).1
          exact h1 ⟨this.1, by omega⟩
        exact Ev_ite_f h1 (Ev.now _)
  exact Ev.congr (fun k => rfl) (loop p.length 0 (by omega) _ isOrd_iff)
theorem rdOf_set {α : Type} {z : α} {xs : List α} {i j : Nat} {v : α} (hi : i < xs.length) : rdOf z (xs.set i v) (j : Int) = if i = j then v else rdOf z xs (j : Int) := by
  simp only [rdOf, toNat_cast, List.getD_eq_getElem?_getD, List.getElem?_set]
  by_cases h : i = j
  · subst h; simp [hi]
  · simp [h]
theorem implIsOrder_ev (p : List Int) (hl : p.length ≤ 35184372088832) : Ev (fun k => impl_IsOrder.f k p) (isOrd p) := by
  by_cases h64 : p.length ≤ 64
  · have loop : ∀ (d i : Nat), i + d = p.length → ∀ seen : List Bool, seen.length = p.length → (∀ v : Nat, v < p.length → (rdOf false seen (v : Int) = true ↔ ∃ t : Nat, t < i ∧ rd p (t : Int) = v)) →
        ∀ b : Bool, (b = true ↔ ordP p i) → Ev (fun k => impl_IsOrder.l0 k p seen p (p.length : Int) (i : Int)) b := by
      intro d
      induction d with
      | zero =>
        intro i hi seen _ _ b hb
        obtain rfl : b = true := hb.2 (ordP_end (by omega))
        exact Ev.step (f := fun _ => some true) (fun k => by rw [impl_IsOrder.l0, if_neg (by omega)]) (Ev.now _)
      | succ d ih =>
        intro i hi seen hsl hseen b hb
        have hs := ordP_succ (p := p) (i := i) (by omega)
        refine Ev.step (f := fun k => (some (decide (0 ≤ rd p (i : Int) ∧ rd p (i : Int) ≤ (p.length : Int) - 1))).bind fun t => if t = true then (if 0 ≤ rd p (i : Int) then (if rd p (i : Int) < (seen.length : Int) then (if rdOf false seen (rd p (i : Int)) = true then some false else impl_IsOrder.l0 k p (seen.set (rd p (i : Int)).toNat true) p (p.length : Int) ((i + 1 : Nat) : Int)) else none) else none) else some false) (fun k => by
          rw [impl_IsOrder.l0, if_pos (by omega), if_pos (by omega), if_pos (by omega), impl_length_int64.f]
          simp only [Option.bind_some]
          rw [inRange_eq, w64 (x := (p.length : Int) - 1) (by omega) (by omega), w64n i (by omega)]; rfl) ?_
        simp only [Option.bind_some, decide_eq_true_eq]
        by_cases h1 : 0 ≤ rd p (i : Int) ∧ rd p (i : Int) ≤ (p.length : Int) - 1
        · obtain ⟨v, hv⟩ := Int.eq_ofNat_of_zero_le h1.1
          refine Ev_ite_t h1 (Ev_ite_t h1.1 (Ev_ite_t (by omega) ?_))
          rw [hv, toNat_cast]
          rw [hv] at h1 hs
          have hsv := hseen v (by omega)
          by_cases h2 : rdOf false seen (v : Int) = true
          · obtain ⟨t, ht, e⟩ := hsv.1 h2
            obtain rfl : b = false := by
              rw [Bool.eq_false_iff]; intro hbt
              exact (hs.1 (hb.1 hbt)).1.2.2 t ht e
            exact Ev_ite_t h2 (Ev.now _)
          · refine Ev_ite_f h2 (ih (i + 1) (by omega) _ (by rw [List.length_set]; exact hsl) (fun u hu => ?_) b ?_)
            · rw [rdOf_set (by omega)]
              by_cases e : v = u
              · subst e
                simp only [if_true, true_iff]
                exact ⟨i, by omega, hv⟩
              · rw [if_neg e, hseen u hu]
                constructor
                · rintro ⟨t, ht, et⟩; exact ⟨t, by omega, et⟩
                · rintro ⟨t, ht, et⟩
                  by_cases e2 : t = i
                  · subst e2; rw [hv] at et; omega
                  · exact ⟨t, by omega, et⟩
            · rw [hb, hs]
              constructor
              · rintro ⟨_, c⟩; exact c
              · intro c
                refine ⟨⟨h1.1, by omega, fun t ht e => h2 (hsv.2 ⟨t, ht, e⟩)⟩, c⟩
        · obtain rfl : b = false := by
            rw [Bool.eq_false_iff]; intro hbt
            have := (hs.1 (hb.1 hbt)).1
            exact h1 ⟨this.1, by omega⟩
          exact Ev_ite_f h1 (Ev.now _)
    refine Ev.congr (fun k => ?_) (loop p.length 0 (by omega) (List.replicate p.length false) (by simp) (fun v hv => ?_) (isOrd p) (by rw [isOrd_iff]; exact ⟨fun h => h.2, fun h => ⟨h64, h⟩⟩))
    · simp only [impl_IsOrder.f, toNat_cast]
      rw [if_neg (by omega), if_pos (by omega), if_pos (by omega)]
      rfl
    · constructor
      · intro h; simp [rdOf, List.getD_eq_getElem?_getD, List.getElem?_replicate, hv] at h
      · rintro ⟨t, ht, _⟩; omega
  · obtain e : isOrd p = false := by
      rw [Bool.eq_false_iff]; intro h; exact h64 (isOrd_iff.1 h).1
    rw [e]
    refine Ev.congr (f := fun _ => some false) (fun k => ?_) (Ev.now _)
    simp only [impl_IsOrder.f]
    rw [if_pos (by omega)]
def turnL (l : List Int) : List Int := (l.map fun x => wrap64 (-x)).reverse
theorem turn_gen (F : Nat → List Int → List Int → Int → Option (List Int)) (hF : ∀ k x0 x3 x4, F (k + 1) x0 x3 x4 = if x4 ≥ 0 then (if 0 ≤ x4 then (if x4 < (x0.length : Int) then (if x3.length < 17592186044416 then (F k x0 (x3 ++ [wrap64 (-(rd x0 x4))]) (wrap64 (x4 - 1))) else (none)) else (none)) else (none)) else (some x3)) (l : List Int) (hl : l.length ≤ 8796093022208) : Ev (fun k => F k l [] (wrap64 ((l.length : Int) - 1))) (turnL l) := by
  have loop : ∀ (m : Nat), m ≤ l.length → ∀ acc : List Int, acc.length + m ≤ l.length → Ev (fun k => F k l acc ((m : Int) - 1)) (acc ++ turnL (l.take m)) := by
    intro m
    induction m with
    | zero =>
      intro _ acc _
      have e : acc ++ turnL (l.take 0) = acc := by simp [turnL]
      rw [e]
      exact Ev.step (f := fun _ => some acc) (fun k => by rw [hF, if_neg (by omega)]) (Ev.now _)
    | succ m ih =>
      intro hm acc ha
      have e : acc ++ turnL (l.take (m + 1)) = (acc ++ [wrap64 (-(rd l (m : Int)))]) ++ turnL (l.take m) := by
        unfold turnL
        rw [List.take_succ_eq_append_getElem (show m < l.length by omega), List.map_append, List.reverse_append, rd_get (show m < l.length by omega), List.append_assoc]
        rfl
      rw [e]
      refine Ev.step (fun k => ?_) (ih (by omega) (acc ++ [wrap64 (-(rd l (m : Int)))]) (by rw [List.length_append, List.length_singleton]; omega))
      have e2 : ((m + 1 : Nat) : Int) - 1 = (m : Int) := by omega
      rw [e2, hF, if_pos (by omega), if_pos (by omega), if_pos (by omega), if_pos (by omega), w64 (x := (m : Int) - 1) (by omega) (by omega)]
  have h := loop l.length (Nat.le_refl _) [] (by simp)
  rw [List.nil_append, List.take_length] at h
  rw [w64 (x := (l.length : Int) - 1) (by omega) (by omega)]
  exact h
theorem turnL_len (l : List Int) : (turnL l).length = l.length := by simp [turnL]
def plc (x : Int) : Int := wrap64 (mx x (wrap64 (-x)) - 1)
theorem stack_both (l : List Int) (hl : l.length ≤ 8796093022208) : ∃ b : Bool, Ev (fun k => spec_l03List.f k l) b ∧ Ev (fun k => impl_isStack.f k l) b ∧ (b = true → (∀ x ∈ l, -64 ≤ x ∧ x ≤ 64) ∧ 0 < l.length ∧ isOrd (l.map plc) = true) := by
  have loop : ∀ (d i : Nat), i + d = l.length → (∀ j : Nat, j < i → -64 ≤ rd l (j : Int) ∧ rd l (j : Int) ≤ 64) → ∃ b : Bool, Ev (fun k => spec_l03List.l0 k l ((l.take i).map plc) (i : Int)) b ∧ Ev (fun k => impl_isStack.l0 k l ((l.take i).map plc) l (l.length : Int) (i : Int)) b ∧
      (b = true → (∀ j : Nat, j < l.length → -64 ≤ rd l (j : Int) ∧ rd l (j : Int) ≤ 64) ∧ 0 < l.length ∧ isOrd (l.map plc) = true) := by
    intro d
    induction d with
    | zero =>
      intro i hi hr
      obtain rfl : i = l.length := by omega
      rw [List.take_length]
      have lm : (l.map plc).length = l.length := by simp
      by_cases h0 : (l.length : Int) > 0
      · refine ⟨isOrd (l.map plc), ?_, ?_, fun h => ⟨hr, by omega, h⟩⟩
        · exact Ev.step (f := fun k => (spec_IsOrder.f k (l.map plc)).bind fun t => some t) (fun k => by rw [spec_l03List.l0, if_neg (by omega), if_pos h0]) (Ev.bind (specIsOrder_ev _ (by omega)) (Ev.now _))
        · exact Ev.step (f := fun k => (impl_IsOrder.f k (l.map plc)).bind fun t => some t) (fun k => by rw [impl_isStack.l0, if_neg (by omega), if_pos h0]) (Ev.bind (implIsOrder_ev _ (by omega)) (Ev.now _))
      · exact ⟨false, Ev.step (f := fun _ => some false) (fun k => by rw [spec_l03List.l0, if_neg (by omega), if_neg h0]) (Ev.now _), Ev.step (f := fun _ => some false) (fun k => by rw [impl_isStack.l0, if_neg (by omega), if_neg h0]) (Ev.now _), fun h => by cases h⟩
    | succ d ih =>
      intro i hi hr
      have lt : ((l.take i).map plc).length = i := by rw [List.length_map, List.length_take]; omega
      by_cases h : -64 ≤ rd l (i : Int) ∧ rd l (i : Int) ≤ 64
      · obtain ⟨b, h1, h2, h3⟩ := ih (i + 1) (by omega) (fun j hj => by
          by_cases e : j = i
          · subst e; exact h
          · exact hr j (by omega))
        have e : (l.take (i + 1)).map plc = (l.take i).map plc ++ [wrap64 (mx (rd l (i : Int)) (wrap64 (-(rd l (i : Int)))) - 1)] := by
          rw [List.take_succ_eq_append_getElem (show i < l.length by omega), List.map_append, rd_get (show i < l.length by omega)]
          rfl
        rw [e] at h1 h2
        refine ⟨b, Ev.step (fun k => ?_) h1, Ev.step (fun k => ?_) h2, h3⟩
        · rw [spec_l03List.l0, if_pos (by omega), if_pos (by omega), l01In_eq]
          simp only [Option.bind_some, decide_eq_true_eq]
          rw [if_pos h, if_pos (by omega), w64n i (by omega)]
        · rw [impl_isStack.l0, if_pos (by omega), if_pos (by omega), if_pos (by omega), inRange_eq]
          simp only [Option.bind_some, decide_eq_true_eq]
          rw [if_pos h, if_pos (by omega), w64n i (by omega)]
      · refine ⟨false, Ev.step (f := fun _ => some false) (fun k => ?_) (Ev.now _), Ev.step (f := fun _ => some false) (fun k => ?_) (Ev.now _), fun h => by cases h⟩
        · rw [spec_l03List.l0, if_pos (by omega), if_pos (by omega), l01In_eq]
          simp only [Option.bind_some, decide_eq_true_eq]
          rw [if_neg h]
        · rw [impl_isStack.l0, if_pos (by omega), if_pos (by omega), if_pos (by omega), inRange_eq]
          simp only [Option.bind_some, decide_eq_true_eq]
          rw [if_neg h]
  obtain ⟨b, h1, h2, h3⟩ := loop l.length 0 (by omega) (fun j hj => by omega)
  refine ⟨b, Ev.congr (fun k => rfl) h1, Ev.congr (fun k => rfl) h2, fun h => ?_⟩
  obtain ⟨a1, a2, a3⟩ := h3 h
  refine ⟨fun x hx => ?_, a2, a3⟩
  obtain ⟨j, hj, rfl⟩ := List.mem_iff_getElem.1 hx
  have := a1 j hj
  rw [rd_get hj] at this
  exact this
def isF (s : ByteArray) : Bool := decide ((∀ i : Nat, i < s.size → bt s (i : Int) = 76 ∨ bt s (i : Int) = 82) ∧ s.size ≤ 6)
theorem bt_list (s : ByteArray) (i : Nat) (h : i < s.size) : bt s (i : Int) = ((s.data.toList[i]'(by simpa using h)).toNat : Int) := by
  unfold bt
  rw [dif_pos (by rw [Int.toNat_natCast]; exact h)]
  simp [ByteArray.getElem_eq_getElem_data]
def mkb (l : List UInt8) : ByteArray := ⟨l.toArray⟩
theorem mkb_list (l : List UInt8) : (mkb l).toList = l := by rw [ByteArray.toList_eq]; rfl
theorem mkb_size (l : List UInt8) : (mkb l).size = l.length := by show l.toArray.size = _; exact List.size_toArray
theorem mkb_append (a b : List UInt8) : mkb a ++ mkb b = mkb (a ++ b) := by
  apply ByteArray.ext
  rw [ByteArray.data_append]
  show a.toArray ++ b.toArray = (a ++ b).toArray
  simp
theorem mkb_of (s : ByteArray) : s = mkb s.data.toList := by
  apply ByteArray.ext
  show s.data = s.data.toList.toArray
  simp
def allW (p : List UInt8 → Bool) : Nat → Bool
  | 0 => p []
  | n + 1 => allW (fun l => p (76 :: l)) n && allW (fun l => p (82 :: l)) n
theorem allW_spec : ∀ (n : Nat) (p : List UInt8 → Bool), allW p n = true → ∀ l : List UInt8, l.length = n → (∀ c ∈ l, c = 76 ∨ c = 82) → p l = true
  | 0, p, h, l, hl, _ => by
    rw [List.length_eq_zero_iff] at hl
    rw [hl]; exact h
  | n + 1, p, h, l, hl, hc => by
    rw [allW, Bool.and_eq_true] at h
    cases l with
    | nil => simp at hl
    | cons c t =>
      have ht : t.length = n := by simpa using hl
      have hct : ∀ x ∈ t, x = 76 ∨ x = 82 := fun x hx => hc x (List.mem_cons_of_mem _ hx)
      rcases hc c List.mem_cons_self with rfl | rfl
      · exact allW_spec n _ h.1 t ht hct
      · exact allW_spec n _ h.2 t ht hct
def allF (p : List UInt8 → Bool) : Bool := allW p 0 && allW p 1 && allW p 2 && allW p 3 && allW p 4 && allW p 5 && allW p 6
theorem isF_list {s : ByteArray} (h : isF s = true) : s = mkb s.data.toList ∧ s.data.toList.length ≤ 6 ∧ ∀ c ∈ s.data.toList, c = 76 ∨ c = 82 := by
  unfold isF at h
  rw [decide_eq_true_iff] at h
  obtain ⟨h1, h2⟩ := h
  refine ⟨mkb_of s, by simpa using h2, fun c hc => ?_⟩
  obtain ⟨i, hi, rfl⟩ := List.mem_iff_getElem.1 hc
  have hi' : i < s.size := by simpa using hi
  have := h1 i hi'
  rw [bt_list s i hi'] at this
  rcases this with e | e
  · left; apply UInt8.toNat_inj.1; exact Int.ofNat.inj e
  · right; apply UInt8.toNat_inj.1; exact Int.ofNat.inj e
theorem allF_spec {p : List UInt8 → Bool} (h : allF p = true) {s : ByteArray} (hs : isF s = true) : p s.data.toList = true := by
  obtain ⟨_, hl, hc⟩ := isF_list hs
  unfold allF at h
  simp only [Bool.and_eq_true] at h
  obtain ⟨⟨⟨⟨⟨⟨h0, h1⟩, h2⟩, h3⟩, h4⟩, h5⟩, h6⟩ := h
  have : s.data.toList.length = 0 ∨ s.data.toList.length = 1 ∨ s.data.toList.length = 2 ∨ s.data.toList.length = 3 ∨ s.data.toList.length = 4 ∨ s.data.toList.length = 5 ∨ s.data.toList.length = 6 := by omega
  rcases this with e | e | e | e | e | e | e
  · exact allW_spec 0 p h0 _ e hc
  · exact allW_spec 1 p h1 _ e hc
  · exact allW_spec 2 p h2 _ e hc
  · exact allW_spec 3 p h3 _ e hc
  · exact allW_spec 4 p h4 _ e hc
  · exact allW_spec 5 p h5 _ e hc
  · exact allW_spec 6 p h6 _ e hc
def stK (l : List UInt8) : Bool := match impl_foldStrip.f 400 (mkb l), spec_l03Stack.f 400 (mkb l) with
  | some a, some b => a.1 == b && decide (b.length ≤ 64)
  | _, _ => false
theorem st_fin : allF stK = true := by decide +kernel
theorem st_two {s : ByteArray} (hs : isF s = true) : ∃ (st : List Int) (cr : ByteArray), Ev (fun k => impl_foldStrip.f k s) (st, cr) ∧ Ev (fun k => spec_l03Stack.f k s) st ∧ st.length ≤ 64 := by
  have h := allF_spec st_fin hs
  unfold stK at h
  rw [← (isF_list hs).1] at h
  cases e1 : impl_foldStrip.f 400 s with
  | none => rw [e1] at h; simp at h
  | some a =>
    cases e2 : spec_l03Stack.f 400 s with
    | none => rw [e1, e2] at h; simp at h
    | some b =>
      rw [e1, e2] at h
      simp only [Bool.and_eq_true, beq_iff_eq, decide_eq_true_eq] at h
      obtain ⟨h1, h2⟩ := h
      refine ⟨a.1, a.2, Ev.of (impl_foldStrip.mono _) e1, ?_, by rw [h1]; exact h2⟩
      rw [h1]
      exact Ev.of (spec_l03Stack.mono _) e2
theorem same_two (x y : List Int) (hx : x.length ≤ 1048576) (hy : y.length ≤ 1048576) : ∃ b : Bool, Ev (fun k => spec_l01Same.f k x y) b ∧ Ev (fun k => slices_Equal_int64_int64.f k x y) b ∧ (b = true ↔ x = y) := by
  unfold spec_l01Same.f slices_Equal_int64_int64.f
  by_cases he : (x.length : Int) = (y.length : Int)
  · have loop : ∀ (d i : Nat), i + d = x.length → (∀ j : Nat, j < i → rd x (j : Int) = rd y (j : Int)) → ∃ b : Bool, Ev (fun k => spec_l01Same.l0 k x y (i : Int)) b ∧ Ev (fun k => slices_Equal_int64_int64.l0 k x y (x.length : Int) (i : Int)) b ∧ (b = true ↔ x = y) := by
      intro d
      induction d with
      | zero =>
        intro i hi h
        refine ⟨true, Ev.step (f := fun _ => some true) (fun k => by rw [spec_l01Same.l0, if_neg (by omega)]) (Ev.now _), Ev.step (f := fun _ => some true) (fun k => by rw [slices_Equal_int64_int64.l0, if_neg (by omega)]) (Ev.now _), ?_⟩
        have : x = y := rd_ext (by omega) (fun j hj => h j (by omega))
        simp [this]
      | succ d ih =>
        intro i hi h
        by_cases e : rd x (i : Int) = rd y (i : Int)
        · obtain ⟨b, h1, h2, h3⟩ := ih (i + 1) (by omega) (fun j hj => by
            by_cases ej : j = i
            · subst ej; exact e
            · exact h j (by omega))
          refine ⟨b, Ev.step (fun k => ?_) h1, Ev.step (fun k => ?_) h2, h3⟩
          · rw [spec_l01Same.l0, if_pos (by omega), if_pos (by omega), if_pos (by omega), if_pos e, w64n i (by omega)]
          · rw [slices_Equal_int64_int64.l0, if_pos (by omega), if_pos (by omega), if_pos (by omega), if_pos (by omega), if_pos e, w64n i (by omega)]
        · refine ⟨false, Ev.step (f := fun _ => some false) (fun k => ?_) (Ev.now _), Ev.step (f := fun _ => some false) (fun k => ?_) (Ev.now _), ?_⟩
          · rw [spec_l01Same.l0, if_pos (by omega), if_pos (by omega), if_pos (by omega), if_neg e]
          · rw [slices_Equal_int64_int64.l0, if_pos (by omega), if_pos (by omega), if_pos (by omega), if_pos (by omega), if_neg e]
          · refine ⟨fun z => (by cases z), fun z => (e (by rw [z])).elim⟩
    obtain ⟨b, h1, h2, h3⟩ := loop x.length 0 (by omega) (fun j hj => by omega)
    exact ⟨b, Ev_ite_t he (Ev.congr (fun k => rfl) h1), Ev_ite_t he (Ev.congr (fun k => rfl) h2), h3⟩
  · refine ⟨false, Ev_ite_f he (Ev.now _), Ev_ite_f he (Ev.now _), ⟨fun z => (by cases z), fun z => (he (by rw [z])).elim⟩⟩
theorem shl_fin : ∀ n : Fin 7, shl .i64 1 (IntKind.u64.wrap ((n.val : Nat) : Int)) = ((2 ^ n.val : Nat) : Int) ∧ 0 ≤ IntKind.u64.wrap ((n.val : Nat) : Int) := by decide +kernel
theorem isF_mkb {l : List UInt8} (h : l.length ≤ 6) (hc : ∀ c ∈ l, c = 76 ∨ c = 82) : isF (mkb l) = true := by
  unfold isF
  rw [decide_eq_true_iff]
  refine ⟨fun i hi => ?_, by rw [mkb_size]; exact h⟩
  rw [bt_list _ i hi]
  have hi' : i < l.length := by rw [mkb_size] at hi; exact hi
  have e : (mkb l).data.toList = l := by show l.toArray.toList = l; simp
  simp only [e]
  rcases hc _ (List.getElem_mem hi') with z | z
  · left; rw [z]; rfl
  · right; rw [z]; rfl
theorem isF_app {d : ByteArray} (h : isF d = true) (hs : d.size < 6) (c : UInt8) (hc : c = 76 ∨ c = 82) : isF (d ++ (⟨#[c]⟩ : ByteArray)) = true := by
  obtain ⟨h1, h2, h3⟩ := isF_list h
  rw [h1]
  show isF (mkb d.data.toList ++ mkb [c]) = true
  rw [mkb_append]
  have hz : d.size = d.data.toList.length := by simp
  refine isF_mkb (by rw [List.length_append]; simp only [List.length_cons, List.length_nil]; omega) (fun x hx => ?_)
  rcases List.mem_append.1 hx with z | z
  · exact h3 x z
  · rw [List.mem_singleton] at z
    rw [z]; exact hc
theorem app_size (d : ByteArray) (c : UInt8) : (d ++ (⟨#[c]⟩ : ByteArray)).size = d.size + 1 := by rw [ByteArray.size_append]; rfl
theorem find_pow (l : List Int) (K : Nat) (hK : K ≤ 6) (hl : l.length = 2 ^ K) : ∀ (m : Nat) (d : ByteArray), isF d = true → d.size + m = K → ∃ (b : Bool) (e : ByteArray), Ev (fun k => spec_l03Find.f k l d) (e, b) ∧ Ev (fun k => af_go (ff_p k l) m d) (b, e) ∧ (b = true → isF e = true ∧ e.size = K ∧ ∃ cr, Ev (fun k => impl_foldStrip.f k e) (l, cr)) := by
  have h64 : l.length ≤ 64 := by
    rw [hl]; exact Nat.pow_le_pow_right (n := 2) (by omega) hK
  intro m
  induction m with
  | zero =>
    intro d hd hs
    obtain ⟨st, cr, h1, h2, h3⟩ := st_two hd
    obtain ⟨b, b1, b2, b3⟩ := same_two st l (by omega) (by omega)
    obtain ⟨s1, s2⟩ := shl_fin ⟨d.size, by omega⟩
    simp only at s1 s2
    have hse : d.size = K := by omega
    refine ⟨b, d, ?_, ?_, fun hb => ⟨hd, hse, cr, ?_⟩⟩
    · refine Ev.step (f := fun k => (spec_l03Stack.f k d).bind fun t168 => ((spec_l01Same.f k t168 l).bind fun t171 => (some (d, t171)))) (fun k => ?_) (Ev.bind h2 (Ev.bind b1 (Ev.now _)))
      rw [spec_l03Find.f, if_pos s2, if_pos (by rw [s1, hl, hse])]
    · show Ev (fun k => (ff_p k l d).bind fun b => some (b, d)) (b, d)
      refine Ev.bind (a := b) ?_ (Ev.now _)
      unfold ff_p
      exact Ev.bind h1 b2
    · rw [← b3.1 hb]; exact h1
  | succ m ih =>
    intro d hd hs
    obtain ⟨s1, s2⟩ := shl_fin ⟨d.size, by omega⟩
    simp only at s1 s2
    obtain ⟨bL, eL, l1, l2, l3⟩ := ih (d ++ (⟨#[76]⟩ : ByteArray)) (isF_app hd (by omega) 76 (.inl rfl)) (by rw [app_size]; omega)
    obtain ⟨bR, eR, r1, r2, r3⟩ := ih (d ++ (⟨#[82]⟩ : ByteArray)) (isF_app hd (by omega) 82 (.inr rfl)) (by rw [app_size]; omega)
    have hlt : 2 ^ d.size < l.length := by rw [hl]; exact Nat.pow_lt_pow_right (by omega) (by omega)
    have hstep : ∀ r, Ev (fun k => (spec_l03Find.f k l (d ++ (⟨#[76]⟩ : ByteArray))).bind fun bt172 => (if bt172.2 = true then (some (bt172.1, true)) else ((spec_l03Find.f k l (d ++ (⟨#[82]⟩ : ByteArray))).bind fun bt174 => (some (bt174.1, bt174.2))))) r → Ev (fun k => spec_l03Find.f k l d) r := fun r hr => Ev.step (fun k => by rw [spec_l03Find.f, if_pos s2, if_neg (by rw [s1]; omega), if_neg (by rw [s1]; omega), if_pos (by omega)]) hr
    cases bL with
    | true =>
      refine ⟨true, eL, hstep _ (Ev.bind l1 (Ev_ite_t rfl (Ev.now _))), ?_, l3⟩
      show Ev (fun k => (af_go (ff_p k l) m (d ++ (⟨#[76]⟩ : ByteArray))).bind fun r => if r.1 = true then some (true, r.2) else af_go (ff_p k l) m (d ++ (⟨#[82]⟩ : ByteArray))) (true, eL)
      exact Ev.bind l2 (Ev_ite_t rfl (Ev.now _))
    | false =>
      refine ⟨bR, eR, hstep _ (Ev.bind l1 (Ev_ite_f (by simp) (Ev.bind r1 (Ev.now _)))), ?_, r3⟩
      show Ev (fun k => (af_go (ff_p k l) m (d ++ (⟨#[76]⟩ : ByteArray))).bind fun r => if r.1 = true then some (true, r.2) else af_go (ff_p k l) m (d ++ (⟨#[82]⟩ : ByteArray))) (bR, eR)
      exact Ev.bind l2 (Ev_ite_f (by simp) r2)
theorem find_short (l : List Int) (K : Nat) (hK : K ≤ 6) (hl : l.length < 2 ^ K) (hj : ∀ j : Nat, j < K → 2 ^ j < l.length) : ∀ (m : Nat) (d : ByteArray), d.size + m = K → ∃ e : ByteArray, Ev (fun k => spec_l03Find.f k l d) (e, false) := by
  intro m
  induction m with
  | zero =>
    intro d hs
    obtain ⟨s1, s2⟩ := shl_fin ⟨d.size, by omega⟩
    simp only at s1 s2
    obtain rfl : d.size = K := by omega
    exact ⟨(⟨#[]⟩ : ByteArray), Ev.step (f := fun _ => some ((⟨#[]⟩ : ByteArray), false)) (fun k => by rw [spec_l03Find.f, if_pos s2, if_neg (by rw [s1]; omega), if_pos (by rw [s1]; omega)]) (Ev.now _)⟩
  | succ m ih =>
    intro d hs
    obtain ⟨s1, s2⟩ := shl_fin ⟨d.size, by omega⟩
    simp only at s1 s2
    obtain ⟨eL, l1⟩ := ih (d ++ (⟨#[76]⟩ : ByteArray)) (by rw [app_size]; omega)
    obtain ⟨eR, r1⟩ := ih (d ++ (⟨#[82]⟩ : ByteArray)) (by rw [app_size]; omega)
    have hlt : 2 ^ d.size < l.length := hj _ (by omega)
    refine ⟨eR, Ev.step (f := fun k => (spec_l03Find.f k l (d ++ (⟨#[76]⟩ : ByteArray))).bind fun bt172 => (if bt172.2 = true then (some (bt172.1, true)) else ((spec_l03Find.f k l (d ++ (⟨#[82]⟩ : ByteArray))).bind fun bt174 => (some (bt174.1, bt174.2))))) (fun k => by rw [spec_l03Find.f, if_pos s2, if_neg (by rw [s1]; omega), if_neg (by rw [s1]; omega), if_pos (by omega)]) (Ev.bind l1 (Ev_ite_f (by simp) (Ev.bind r1 (Ev.now _))))⟩
theorem isF_nil : isF (⟨#[]⟩ : ByteArray) = true := by decide +kernel
theorem findFolds_two (l : List Int) (hl : l.length ≤ 8796093022208) : ∃ r : ByteArray × Int, Ev (fun k => spec_FindFolds.f k l) r ∧ Ev (fun k => impl_FindFolds.f k l) r ∧ (r.2 = 0 → isF r.1 = true ∧ ∃ cr, Ev (fun k => impl_foldStrip.f k r.1) (l, cr)) := by
  obtain ⟨b, h1, h2, h3⟩ := stack_both l hl
  unfold spec_FindFolds.f impl_FindFolds.f
  cases b with
  | false => exact ⟨((⟨#[]⟩ : ByteArray), 1), Ev.bind h1 (Ev_ite_f (by simp) (Ev.now _)), Ev.bind h2 (Ev_ite_f (by simp) (Ev.now _)), fun z => absurd z (by decide)⟩
  | true =>
    obtain ⟨a1, a2, a3⟩ := h3 rfl
    have h64 : l.length ≤ 64 := by
      have := (isOrd_iff.1 a3).1
      rwa [List.length_map] at this
    obtain ⟨f1, f2, f3⟩ := ffk_fin ⟨l.length, by omega⟩
    simp only at f1 f2 f3
    by_cases he : 2 ^ ff_k l.length = l.length
    · obtain ⟨b, e, g1, g2, g3⟩ := find_pow l (ff_k l.length) f1 he.symm (ff_k l.length) (⟨#[]⟩ : ByteArray) isF_nil (by show 0 + _ = _; omega)
      cases b with
      | true =>
        obtain ⟨i1, i2, i3⟩ := g3 rfl
        exact ⟨(e, 0), Ev.bind h1 (Ev_ite_t rfl (Ev.bind g1 (Ev_ite_t rfl (Ev.now _)))), Ev.bind h2 (Ev_ite_t rfl (Ev_ite_t h64 (Ev_ite_t he (Ev.bind g2 (Ev_ite_t rfl (Ev.now _)))))), fun _ => ⟨i1, i3⟩⟩
      | false =>
        exact ⟨((⟨#[]⟩ : ByteArray), 4), Ev.bind h1 (Ev_ite_t rfl (Ev.bind g1 (Ev_ite_f (by simp) (Ev.now _)))), Ev.bind h2 (Ev_ite_t rfl (Ev_ite_t h64 (Ev_ite_t he (Ev.bind g2 (Ev_ite_f (by simp) (Ev.now _)))))), fun z => absurd z (by decide)⟩
    · obtain ⟨e, g1⟩ := find_short l (ff_k l.length) f1 (by omega) (fun j hj => f3 ⟨j, by omega⟩ hj) (ff_k l.length) (⟨#[]⟩ : ByteArray) (by show 0 + _ = _; omega)
      exact ⟨((⟨#[]⟩ : ByteArray), 4), Ev.bind h1 (Ev_ite_t rfl (Ev.bind g1 (Ev_ite_f (by simp) (Ev.now _)))), Ev.bind h2 (Ev_ite_t rfl (Ev_ite_t h64 (Ev_ite_f he (Ev.now _)))), fun z => absurd z (by decide)⟩
theorem toInt64S_ev (l : List Int) (hl : l.length ≤ 35184372088832) : Ev (fun k => laws_toInt64S.f k l) l := by
  have loop : ∀ (d i : Nat), i + d = l.length → ∀ x : List Int, x.length = l.length → (∀ j : Nat, j < i → rd x (j : Int) = rd l (j : Int)) → Ev (fun k => laws_toInt64S.l0 k l x (i : Int)) l := by
    intro d
    induction d with
    | zero =>
      intro i hi x hx h
      obtain rfl : x = l := rd_ext hx (fun j hj => h j (by omega))
      refine Ev.step (f := fun _ => some x) (fun k => by rw [laws_toInt64S.l0, if_neg (by omega)]) (Ev.now _)
    | succ d ih =>
      intro i hi x hx h
      refine Ev.step (f := fun k => laws_toInt64S.l0 k l (x.set i (rd l (i : Int))) ((i + 1 : Nat) : Int)) (fun k => by rw [laws_toInt64S.l0, if_pos (by omega), if_pos (by omega), if_pos (by omega), w64n i (by omega), toNat_cast]) ?_
      refine ih (i + 1) (by omega) _ (by rw [List.length_set]; exact hx) (fun j hj => ?_)
      rw [rd_set (by omega)]
      by_cases e : i = j
      · rw [if_pos e, e]
      · rw [if_neg e]; exact h j (by omega)
  refine Ev.congr (f := fun k => laws_toInt64S.l0 k l (List.replicate l.length 0) ((0 : Nat) : Int)) (fun k => ?_) (loop l.length 0 (by omega) _ (by simp) (fun j hj => by omega))
  simp only [laws_toInt64S.f, toNat_cast]
  rw [if_pos (by omega), if_pos (by omega)]
  rfl
theorem eqInt64S_ev (l : List Int) (hl : l.length ≤ 35184372088832) : Ev (fun k => laws_eqInt64S.f k l l) true := by
  have loop : ∀ (d i : Nat), i + d = l.length → Ev (fun k => laws_eqInt64S.l0 k l l (i : Int)) true := by
    intro d
    induction d with
    | zero =>
      intro i hi
      refine Ev.step (f := fun _ => some true) (fun k => by rw [laws_eqInt64S.l0, if_neg (by omega)]) (Ev.now _)
    | succ d ih =>
      intro i hi
      refine Ev.step (f := fun k => laws_eqInt64S.l0 k l l ((i + 1 : Nat) : Int)) (fun k => by rw [laws_eqInt64S.l0, if_pos (by omega), if_pos (by omega), if_pos (by omega), if_pos rfl, w64n i (by omega)]) ?_
      exact ih (i + 1) (by omega)
  refine Ev.congr (f := fun k => laws_eqInt64S.l0 k l l ((0 : Nat) : Int)) (fun k => ?_) (loop l.length 0 (by omega))
  simp only [laws_eqInt64S.f, if_true]
  rfl
theorem FnExactFindFolds : laws_FnExactFindFolds.Pure := by
  intro l hl h8 hw
  apply Ev.rounds
  unfold laws_FnExactFindFolds.f
  by_cases hb : (l.length : Int) > 1048576
  · exact Ev_ite_t hb (Ev.now _)
  · have t := toInt64S_ev l (by omega)
    obtain ⟨r, h1, h2, _⟩ := findFolds_two l (by omega)
    refine Ev_ite_f hb (Ev.bind t (Ev.bind h1 (Ev.bind t (Ev.bind h2 (Ev_ite_t rfl ?_)))))
    refine Ev.step (fun k => by rw [laws_FnExactFindFolds.j0, if_neg (by simp)]) ?_
    exact Ev.bind t (Ev.bind (eqInt64S_ev l (by omega)) (Ev_ite_t rfl (Ev.now _)))

end Go.Proofs.Ytjlklieoibhblaa.Pure
