/- The pure statement of FnStrips: for every input that the row lets in, the law's Lean function answers true; no further condition. -/
import Derived.Test.YtdpmpoakjhhaaaaDoorQFnStripsx10
set_option linter.unusedVariables false
set_option linter.unusedSimpArgs false
namespace Go.Proofs.YtdpmpoakjhhaaaaDoor.Pure
open Go.RowKit Go.Proofs.YtdpmpoakjhhaaaaDoor.QFnStrips Go.Proofs.YtdpmpoakjhhaaaaDoorW.PrintWords Go.Proofs.YtdpmpoakjhhaaaaDoorW.PrintLast

theorem w64 {x : Int} (h0 : -9223372036854775808 ≤ x) (h1 : x ≤ 9223372036854775807) : wrap64 x = x := by unfold wrap64; omega
theorem wz : wrap64 0 = 0 := w64 (by omega) (by omega)
theorem w64_range (x : Int) : -9223372036854775808 ≤ wrap64 x ∧ wrap64 x ≤ 9223372036854775807 := by unfold wrap64; omega
theorem wf64 {x : Int} (h : (Lit.int .i64 x).wf = true) : -9223372036854775808 ≤ x ∧ x ≤ 9223372036854775807 := by
  have h' : (decide (IntKind.i64.min ≤ x) && decide (x ≤ IntKind.i64.max)) = true := h
  simp only [Bool.and_eq_true, decide_eq_true_eq] at h'
  exact h'
theorem wf8 {x : Int} (h : (Lit.int .u8 x).wf = true) : 0 ≤ x ∧ x ≤ 255 := by
  have h' : (decide (IntKind.u8.min ≤ x) && decide (x ≤ IntKind.u8.max)) = true := h
  simp only [Bool.and_eq_true, decide_eq_true_eq] at h'
  exact h'
theorem rd_get {xs : List Int} {i : Nat} (h : i < xs.length) : rd xs (i : Int) = xs[i] := by
  simp [rd, List.getD_eq_getElem?_getD, h]
theorem rd_nat (xs : List Int) (i : Nat) : rd xs (i : Int) = xs.getD i 0 := by simp [rd]
theorem rd_mem {xs : List Int} {i : Nat} (h : i < xs.length) : rd xs (i : Int) ∈ xs := by rw [rd_get h]; exact List.getElem_mem h
theorem rd_ext {xs ys : List Int} (hl : xs.length = ys.length) (h : ∀ i : Nat, i < xs.length → rd xs (i : Int) = rd ys (i : Int)) : xs = ys := by
  apply List.ext_getElem hl
  intro i h1 h2
  have := h i h1
  rwa [rd_get h1, rd_get h2] at this
theorem rd_set {xs : List Int} {i j : Nat} {v : Int} (hi : i < xs.length) : rd (xs.set i v) (j : Int) = if i = j then v else rd xs (j : Int) := by
  simp only [rd_nat, List.getD_eq_getElem?_getD, List.getElem?_set]
  by_cases h : i = j
  · subst h; simp [hi]
  · simp [h]
theorem rd_append_left {xs ys : List Int} {j : Nat} (h : j < xs.length) : rd (xs ++ ys) (j : Int) = rd xs (j : Int) := by
  simp only [rd_nat, List.getD_eq_getElem?_getD, List.getElem?_append_left h]
theorem rd_append_at {xs : List Int} {v : Int} : rd (xs ++ [v]) (xs.length : Int) = v := by
  simp [rd_nat, List.getD_eq_getElem?_getD]
theorem rd_take {xs : List Int} {i j : Nat} (h : j < i) : rd (xs.take i) (j : Int) = rd xs (j : Int) := by
  simp [rd_nat, List.getD_eq_getElem?_getD, List.getElem?_take, h]
theorem rd_drop {xs : List Int} {i j : Nat} : rd (xs.drop i) (j : Int) = rd xs ((i + j : Nat) : Int) := by
  simp only [rd_nat, List.getD_eq_getElem?_getD, List.getElem?_drop]
theorem toNat_cast (i : Nat) : ((i : Nat) : Int).toNat = i := Int.toNat_natCast i
theorem drop_cons {xs : List Int} {i : Nat} (h : i < xs.length) : xs.drop i = rd xs (i : Int) :: xs.drop (i + 1) := by
  rw [rd_get h]; exact List.drop_eq_getElem_cons h
theorem Ev_ite_t {α : Type} {c : Prop} [Decidable c] {f g : Nat → Option α} {r : α} (h : c) (k : Ev f r) : Ev (fun n => if c then f n else g n) r :=
  Ev.congr (fun _ => if_pos h) k
theorem Ev_ite_f {α : Type} {c : Prop} [Decidable c] {f g : Nat → Option α} {r : α} (h : ¬ c) (k : Ev g r) : Ev (fun n => if c then f n else g n) r :=
  Ev.congr (fun _ => if_neg h) k
theorem w64n (i : Nat) (h : i < 9223372036854775807) : wrap64 ((i : Int) + 1) = ((i + 1 : Nat) : Int) := by
  rw [w64 (by omega) (by omega)]; rfl
theorem wrap_add_wrap (a b : Int) : wrap64 (wrap64 a + b) = wrap64 (a + b) := by unfold wrap64; omega
theorem wrap_add_wrap' (a b : Int) : wrap64 (a + wrap64 b) = wrap64 (a + b) := by unfold wrap64; omega
theorem EvE_bind {α β : Type} {g : Nat → Option α} {f : Nat → α → Option β} {a : α} (h : Ev g a) (k : ∃ r, Ev (fun n => f n a) r) : ∃ r, Ev (fun n => (g n).bind (f n)) r := by
  obtain ⟨r, k⟩ := k
  exact ⟨r, Ev.bind h k⟩
theorem EvE_now {α : Type} (a : α) : ∃ r, Ev (fun _ : Nat => some a) r := ⟨a, Ev.now a⟩
theorem EvE_ite_t {α : Type} {c : Prop} [Decidable c] {f g : Nat → Option α} (h : c) (k : ∃ r, Ev f r) : ∃ r, Ev (fun n => if c then f n else g n) r := by
  obtain ⟨r, k⟩ := k
  exact ⟨r, Ev_ite_t h k⟩
theorem EvE_ite_f {α : Type} {c : Prop} [Decidable c] {f g : Nat → Option α} (h : ¬ c) (k : ∃ r, Ev g r) : ∃ r, Ev (fun n => if c then f n else g n) r := by
  obtain ⟨r, k⟩ := k
  exact ⟨r, Ev_ite_f h k⟩
theorem l01Has_ev (l : List Int) (x : Int) (hl : l.length ≤ 35184372088832) : Ev (fun k => spec_l01Has.f k l x) (decide (x ∈ l)) := by
  have loop : ∀ (d i : Nat), i + d = l.length → Ev (fun k => spec_l01Has.l0 k l x (i : Int)) (decide (x ∈ l.drop i)) := by
    intro d
    induction d with
    | zero =>
      intro i hi
      have e : decide (x ∈ l.drop i) = false := by rw [List.drop_of_length_le (by omega)]; simp
      rw [e]
      exact Ev.step (f := fun _ => some false) (fun k => by rw [spec_l01Has.l0, if_neg (by omega)]) (Ev.now _)
    | succ d ih =>
      intro i hi
      by_cases e : rd l (i : Int) = x
      · have e1 : decide (x ∈ l.drop i) = true := by rw [drop_cons (by omega)]; simp [e]
        rw [e1]
        exact Ev.step (f := fun _ => some true) (fun k => by rw [spec_l01Has.l0, if_pos (by omega), if_pos (by omega), if_pos e]) (Ev.now _)
      · have e1 : decide (x ∈ l.drop i) = decide (x ∈ l.drop (i + 1)) := by rw [drop_cons (by omega)]; simp [Ne.symm e]
        rw [e1]
        exact Ev.step (fun k => by rw [spec_l01Has.l0, if_pos (by omega), if_pos (by omega), if_neg e, w64n i (by omega)]) (ih (i + 1) (by omega))
  have := loop l.length 0 (by omega)
  rw [List.drop_zero] at this
  exact Ev.congr (fun k => rfl) this
theorem l01In_eq (n a b : Int) : spec_l01In.f n a b = some (decide (a ≤ n ∧ n ≤ b)) := by
  unfold spec_l01In.f
  by_cases h : n ≥ a
  · rw [if_pos h]; simp [show a ≤ n from h]
  · rw [if_neg h]; simp [show ¬ a ≤ n from h]
theorem inRange_eq (n a b : Int) : impl_inRange.f n a b = some (decide (a ≤ n ∧ n ≤ b)) := by
  unfold impl_inRange.f
  by_cases h : a ≤ n
  · rw [if_pos h]; simp [h]
  · rw [if_neg h]; simp [h]
def ordP (p : List Int) (i : Nat) : Prop := ∀ j : Nat, i ≤ j → j < p.length → 0 ≤ rd p (j : Int) ∧ rd p (j : Int) < p.length ∧ ∀ t : Nat, t < j → rd p (t : Int) ≠ rd p (j : Int)
theorem ordP_end {p : List Int} {i : Nat} (h : p.length ≤ i) : ordP p i := fun j hj hl => by omega
theorem ordP_succ {p : List Int} {i : Nat} (h : i < p.length) : ordP p i ↔ (0 ≤ rd p (i : Int) ∧ rd p (i : Int) < p.length ∧ ∀ t : Nat, t < i → rd p (t : Int) ≠ rd p (i : Int)) ∧ ordP p (i + 1) := by
  constructor
  · intro H
    exact ⟨H i (Nat.le_refl _) h, fun j hj hl => H j (by omega) hl⟩
  · rintro ⟨h1, h2⟩ j hj hl
    by_cases e : i = j
    · subst e; exact h1
    · exact h2 j (by omega) hl
noncomputable def isOrd (p : List Int) : Bool := @decide (p.length ≤ 64 ∧ ordP p 0) (Classical.propDecidable _)
theorem isOrd_iff {p : List Int} : isOrd p = true ↔ p.length ≤ 64 ∧ ordP p 0 := by unfold isOrd; exact @decide_eq_true_iff _ (Classical.propDecidable _)
theorem mem_take_iff (p : List Int) (i : Nat) (hi : i ≤ p.length) (x : Int) : x ∈ p.take i ↔ ∃ t : Nat, t < i ∧ rd p (t : Int) = x := by
  constructor
  · intro h
    obtain ⟨t, ht, e⟩ := List.mem_iff_getElem.1 h
    rw [List.length_take] at ht
    refine ⟨t, by omega, ?_⟩
    rw [rd_get (by omega), ← e, List.getElem_take]
  · rintro ⟨t, ht, e⟩
    rw [← e, ← rd_take ht]
    exact rd_mem (by rw [List.length_take]; omega)
theorem specIsOrder_ev (p : List Int) (hl : p.length ≤ 35184372088832) : Ev (fun k => spec_IsOrder.f k p) (isOrd p) := by
  have loop : ∀ (d i : Nat), i + d = p.length → ∀ b : Bool, (b = true ↔ p.length ≤ 64 ∧ ordP p i) → Ev (fun k => spec_IsOrder.l0 k p (i : Int)) b := by
    intro d
    induction d with
    | zero =>
      intro i hi b hb
      have e : b = decide ((p.length : Int) ≤ 64) := by
        rw [Bool.eq_iff_iff, hb, decide_eq_true_iff]
        constructor
        · rintro ⟨h, _⟩; omega
        · intro h; exact ⟨by omega, ordP_end (by omega)⟩
      rw [e]
      exact Ev.step (f := fun _ => some (decide ((p.length : Int) ≤ 64))) (fun k => by rw [spec_IsOrder.l0, if_neg (by omega)]) (Ev.now _)
    | succ d ih =>
      intro i hi b hb
      have hs := ordP_succ (p := p) (i := i) (by omega)
      refine Ev.step (f := fun k => (some (decide (0 ≤ rd p (i : Int) ∧ rd p (i : Int) ≤ (p.length : Int) - 1))).bind fun t => if t = true then (spec_l01Has.f k (p.take i) (rd p (i : Int))).bind fun t => if t = true then some false else spec_IsOrder.l0 k p ((i + 1 : Nat) : Int) else some false) (fun k => by
        rw [spec_IsOrder.l0, if_pos (by omega), if_pos (by omega), l01In_eq, w64 (x := (p.length : Int) - 1) (by omega) (by omega), w64n i (by omega), toNat_cast]
        simp only [Option.bind_some]
        rw [if_pos (show (i : Int) ≤ (p.length : Int) by omega)]) ?_
      simp only [Option.bind_some, decide_eq_true_eq]
      by_cases h1 : 0 ≤ rd p (i : Int) ∧ rd p (i : Int) ≤ (p.length : Int) - 1
      · refine Ev_ite_t h1 (Ev.bind (l01Has_ev (p.take i) (rd p (i : Int)) (by rw [List.length_take]; omega)) ?_)
        simp only [decide_eq_true_eq]
        by_cases h2 : rd p (i : Int) ∈ p.take i
        · obtain ⟨t, ht, e⟩ := (mem_take_iff p i (by omega) _).1 h2
          obtain rfl : b = false := by
            rw [Bool.eq_false_iff]; intro hbt
            exact (hs.1 (hb.1 hbt).2).1.2.2 t ht e
          exact Ev_ite_t h2 (Ev.now _)
        · refine Ev_ite_f h2 (ih (i + 1) (by omega) b ?_)
          rw [hb, hs]
          constructor
          · rintro ⟨a, _, c⟩; exact ⟨a, c⟩
          · rintro ⟨a, c⟩
            refine ⟨a, ⟨h1.1, by omega, fun t ht e => h2 ((mem_take_iff p i (by omega) _).2 ⟨t, ht, e⟩)⟩, c⟩
      · obtain rfl : b = false := by
          rw [Bool.eq_false_iff]; intro hbt
          have := (hs.1 (hb.1 hbt).2).1
          exact h1 ⟨this.1, by omega⟩
        exact Ev_ite_f h1 (Ev.now _)
  exact Ev.congr (fun k => rfl) (loop p.length 0 (by omega) _ isOrd_iff)
theorem rdOf_set {α : Type} {z : α} {xs : List α} {i j : Nat} {v : α} (hi : i < xs.length) : rdOf z (xs.set i v) (j : Int) = if i = j then v else rdOf z xs (j : Int) := by
  simp only [rdOf, toNat_cast, List.getD_eq_getElem?_getD, List.getElem?_set]
  by_cases h : i = j
  · subst h; simp [hi]
  · simp [h]
theorem implIsOrder_ev (p : List Int) (hl : p.length ≤ 35184372088832) : Ev (fun k => impl_IsOrder.f k p) (isOrd p) := by
  by_cases h64 : p.length ≤ 64
  · have loop : ∀ (d i : Nat), i + d = p.length → ∀ seen : List Bool, seen.length = p.length → (∀ v : Nat, v < p.length → (rdOf false seen (v : Int) = true ↔ ∃ t : Nat, t < i ∧ rd p (t : Int) = v)) →
        ∀ b : Bool, (b = true ↔ ordP p i) → Ev (fun k => impl_IsOrder.l0 k p seen p (p.length : Int) (i : Int)) b := by
      intro d
      induction d with
      | zero =>
        intro i hi seen _ _ b hb
        obtain rfl : b = true := hb.2 (ordP_end (by omega))
        exact Ev.step (f := fun _ => some true) (fun k => by rw [impl_IsOrder.l0, if_neg (by omega)]) (Ev.now _)
      | succ d ih =>
        intro i hi seen hsl hseen b hb
        have hs := ordP_succ (p := p) (i := i) (by omega)
        refine Ev.step (f := fun k => (some (decide (0 ≤ rd p (i : Int) ∧ rd p (i : Int) ≤ (p.length : Int) - 1))).bind fun t => if t = true then (if 0 ≤ rd p (i : Int) then (if rd p (i : Int) < (seen.length : Int) then (if rdOf false seen (rd p (i : Int)) = true then some false else impl_IsOrder.l0 k p (seen.set (rd p (i : Int)).toNat true) p (p.length : Int) ((i + 1 : Nat) : Int)) else none) else none) else some false) (fun k => by
          rw [impl_IsOrder.l0, if_pos (by omega), if_pos (by omega), if_pos (by omega), impl_length_int64.f]
          simp only [Option.bind_some]
          rw [inRange_eq, w64 (x := (p.length : Int) - 1) (by omega) (by omega), w64n i (by omega)]; rfl) ?_
        simp only [Option.bind_some, decide_eq_true_eq]
        by_cases h1 : 0 ≤ rd p (i : Int) ∧ rd p (i : Int) ≤ (p.length : Int) - 1
        · obtain ⟨v, hv⟩ := Int.eq_ofNat_of_zero_le h1.1
          refine Ev_ite_t h1 (Ev_ite_t h1.1 (Ev_ite_t (by omega) ?_))
          rw [hv, toNat_cast]
          rw [hv] at h1 hs
          have hsv := hseen v (by omega)
          by_cases h2 : rdOf false seen (v : Int) = true
          · obtain ⟨t, ht, e⟩ := hsv.1 h2
            obtain rfl : b = false := by
              rw [Bool.eq_false_iff]; intro hbt
              exact (hs.1 (hb.1 hbt)).1.2.2 t ht e
            exact Ev_ite_t h2 (Ev.now _)
          · refine Ev_ite_f h2 (ih (i + 1) (by omega) _ (by rw [List.length_set]; exact hsl) (fun u hu => ?_) b ?_)
            · rw [rdOf_set (by omega)]
              by_cases e : v = u
              · subst e
                simp only [if_true, true_iff]
                exact ⟨i, by omega, hv⟩
              · rw [if_neg e, hseen u hu]
                constructor
                · rintro ⟨t, ht, et⟩; exact ⟨t, by omega, et⟩
                · rintro ⟨t, ht, et⟩
                  by_cases e2 : t = i
                  · subst e2; rw [hv] at et; omega
                  · exact ⟨t, by omega, et⟩
            · rw [hb, hs]
              constructor
              · rintro ⟨_, c⟩; exact c
              · intro c
                refine ⟨⟨h1.1, by omega, fun t ht e => h2 (hsv.2 ⟨t, ht, e⟩)⟩, c⟩
        · obtain rfl : b = false := by
            rw [Bool.eq_false_iff]; intro hbt
            have := (hs.1 (hb.1 hbt)).1
            exact h1 ⟨this.1, by omega⟩
          exact Ev_ite_f h1 (Ev.now _)
    refine Ev.congr (fun k => ?_) (loop p.length 0 (by omega) (List.replicate p.length false) (by simp) (fun v hv => ?_) (isOrd p) (by rw [isOrd_iff]; exact ⟨fun h => h.2, fun h => ⟨h64, h⟩⟩))
    · simp only [impl_IsOrder.f, toNat_cast]
      rw [if_neg (by omega), if_pos (by omega), if_pos (by omega)]
      rfl
    · constructor
      · intro h; simp [rdOf, List.getD_eq_getElem?_getD, List.getElem?_replicate, hv] at h
      · rintro ⟨t, ht, _⟩; omega
  · obtain e : isOrd p = false := by
      rw [Bool.eq_false_iff]; intro h; exact h64 (isOrd_iff.1 h).1
    rw [e]
    refine Ev.congr (f := fun _ => some false) (fun k => ?_) (Ev.now _)
    simp only [impl_IsOrder.f]
    rw [if_pos (by omega)]
def turnL (l : List Int) : List Int := (l.map fun x => wrap64 (-x)).reverse
theorem turn_gen (F : Nat → List Int → List Int → Int → Option (List Int)) (hF : ∀ k x0 x3 x4, F (k + 1) x0 x3 x4 = if x4 ≥ 0 then (if 0 ≤ x4 then (if x4 < (x0.length : Int) then (if x3.length < 17592186044416 then (F k x0 (x3 ++ [wrap64 (-(rd x0 x4))]) (wrap64 (x4 - 1))) else (none)) else (none)) else (none)) else (some x3)) (l : List Int) (hl : l.length ≤ 8796093022208) : Ev (fun k => F k l [] (wrap64 ((l.length : Int) - 1))) (turnL l) := by
  have loop : ∀ (m : Nat), m ≤ l.length → ∀ acc : List Int, acc.length + m ≤ l.length → Ev (fun k => F k l acc ((m : Int) - 1)) (acc ++ turnL (l.take m)) := by
    intro m
    induction m with
    | zero =>
      intro _ acc _
      have e : acc ++ turnL (l.take 0) = acc := by simp [turnL]
      rw [e]
      exact Ev.step (f := fun _ => some acc) (fun k => by rw [hF, if_neg (by omega)]) (Ev.now _)
    | succ m ih =>
      intro hm acc ha
      have e : acc ++ turnL (l.take (m + 1)) = (acc ++ [wrap64 (-(rd l (m : Int)))]) ++ turnL (l.take m) := by
        unfold turnL
        rw [List.take_succ_eq_append_getElem (show m < l.length by omega), List.map_append, List.reverse_append, rd_get (show m < l.length by omega), List.append_assoc]
        rfl
      rw [e]
      refine Ev.step (fun k => ?_) (ih (by omega) (acc ++ [wrap64 (-(rd l (m : Int)))]) (by rw [List.length_append, List.length_singleton]; omega))
      have e2 : ((m + 1 : Nat) : Int) - 1 = (m : Int) := by omega
      rw [e2, hF, if_pos (by omega), if_pos (by omega), if_pos (by omega), if_pos (by omega), w64 (x := (m : Int) - 1) (by omega) (by omega)]
  have h := loop l.length (Nat.le_refl _) [] (by simp)
  rw [List.nil_append, List.take_length] at h
  rw [w64 (x := (l.length : Int) - 1) (by omega) (by omega)]
  exact h
theorem turnL_len (l : List Int) : (turnL l).length = l.length := by simp [turnL]
def plc (x : Int) : Int := wrap64 (mx x (wrap64 (-x)) - 1)
theorem stack_both (l : List Int) (hl : l.length ≤ 8796093022208) : ∃ b : Bool, Ev (fun k => spec_l03List.f k l) b ∧ Ev (fun k => impl_isStack.f k l) b ∧ (b = true → (∀ x ∈ l, -64 ≤ x ∧ x ≤ 64) ∧ 0 < l.length ∧ isOrd (l.map plc) = true) := by
  have loop : ∀ (d i : Nat), i + d = l.length → (∀ j : Nat, j < i → -64 ≤ rd l (j : Int) ∧ rd l (j : Int) ≤ 64) → ∃ b : Bool, Ev (fun k => spec_l03List.l0 k l ((l.take i).map plc) (i : Int)) b ∧ Ev (fun k => impl_isStack.l0 k l ((l.take i).map plc) l (l.length : Int) (i : Int)) b ∧
      (b = true → (∀ j : Nat, j < l.length → -64 ≤ rd l (j : Int) ∧ rd l (j : Int) ≤ 64) ∧ 0 < l.length ∧ isOrd (l.map plc) = true) := by
    intro d
    induction d with
    | zero =>
      intro i hi hr
      obtain rfl : i = l.length := by omega
      rw [List.take_length]
      have lm : (l.map plc).length = l.length := by simp
      by_cases h0 : (l.length : Int) > 0
      · refine ⟨isOrd (l.map plc), ?_, ?_, fun h => ⟨hr, by omega, h⟩⟩
        · exact Ev.step (f := fun k => (spec_IsOrder.f k (l.map plc)).bind fun t => some t) (fun k => by rw [spec_l03List.l0, if_neg (by omega), if_pos h0]) (Ev.bind (specIsOrder_ev _ (by omega)) (Ev.now _))
        · exact Ev.step (f := fun k => (impl_IsOrder.f k (l.map plc)).bind fun t => some t) (fun k => by rw [impl_isStack.l0, if_neg (by omega), if_pos h0]) (Ev.bind (implIsOrder_ev _ (by omega)) (Ev.now _))
      · exact ⟨false, Ev.step (f := fun _ => some false) (fun k => by rw [spec_l03List.l0, if_neg (by omega), if_neg h0]) (Ev.now _), Ev.step (f := fun _ => some false) (fun k => by rw [impl_isStack.l0, if_neg (by omega), if_neg h0]) (Ev.now _), fun h => by cases h⟩
    | succ d ih =>
      intro i hi hr
      have lt : ((l.take i).map plc).length = i := by rw [List.length_map, List.length_take]; omega
      by_cases h : -64 ≤ rd l (i : Int) ∧ rd l (i : Int) ≤ 64
      · obtain ⟨b, h1, h2, h3⟩ := ih (i + 1) (by omega) (fun j hj => by
          by_cases e : j = i
          · subst e; exact h
          · exact hr j (by omega))
        have e : (l.take (i + 1)).map plc = (l.take i).map plc ++ [wrap64 (mx (rd l (i : Int)) (wrap64 (-(rd l (i : Int)))) - 1)] := by
          rw [List.take_succ_eq_append_getElem (show i < l.length by omega), List.map_append, rd_get (show i < l.length by omega)]
          rfl
        rw [e] at h1 h2
        refine ⟨b, Ev.step (fun k => ?_) h1, Ev.step (fun k => ?_) h2, h3⟩
        · rw [spec_l03List.l0, if_pos (by omega), if_pos (by omega), l01In_eq]
          simp only [Option.bind_some, decide_eq_true_eq]
          rw [if_pos h, if_pos (by omega), w64n i (by omega)]
        · rw [impl_isStack.l0, if_pos (by omega), if_pos (by omega), if_pos (by omega), inRange_eq]
          simp only [Option.bind_some, decide_eq_true_eq]
          rw [if_pos h, if_pos (by omega), w64n i (by omega)]
      · refine ⟨false, Ev.step (f := fun _ => some false) (fun k => ?_) (Ev.now _), Ev.step (f := fun _ => some false) (fun k => ?_) (Ev.now _), fun h => by cases h⟩
        · rw [spec_l03List.l0, if_pos (by omega), if_pos (by omega), l01In_eq]
          simp only [Option.bind_some, decide_eq_true_eq]
          rw [if_neg h]
        · rw [impl_isStack.l0, if_pos (by omega), if_pos (by omega), if_pos (by omega), inRange_eq]
          simp only [Option.bind_some, decide_eq_true_eq]
          rw [if_neg h]
  obtain ⟨b, h1, h2, h3⟩ := loop l.length 0 (by omega) (fun j hj => by omega)
  refine ⟨b, Ev.congr (fun k => rfl) h1, Ev.congr (fun k => rfl) h2, fun h => ?_⟩
  obtain ⟨a1, a2, a3⟩ := h3 h
  refine ⟨fun x hx => ?_, a2, a3⟩
  obtain ⟨j, hj, rfl⟩ := List.mem_iff_getElem.1 hx
  have := a1 j hj
  rw [rd_get hj] at this
  exact this
def isF (s : ByteArray) : Bool := decide ((∀ i : Nat, i < s.size → bt s (i : Int) = 76 ∨ bt s (i : Int) = 82) ∧ s.size ≤ 6)
theorem bt_list (s : ByteArray) (i : Nat) (h : i < s.size) : bt s (i : Int) = ((s.data.toList[i]'(by simpa using h)).toNat : Int) := by
  unfold bt
  rw [dif_pos (by rw [Int.toNat_natCast]; exact h)]
  simp [ByteArray.getElem_eq_getElem_data]
def mkb (l : List UInt8) : ByteArray := ⟨l.toArray⟩
theorem mkb_list (l : List UInt8) : (mkb l).toList = l := by rw [ByteArray.toList_eq]; rfl
theorem mkb_size (l : List UInt8) : (mkb l).size = l.length := by show l.toArray.size = _; exact List.size_toArray
theorem mkb_append (a b : List UInt8) : mkb a ++ mkb b = mkb (a ++ b) := by
  apply ByteArray.ext
  rw [ByteArray.data_append]
  show a.toArray ++ b.toArray = (a ++ b).toArray
  simp
theorem mkb_of (s : ByteArray) : s = mkb s.data.toList := by
  apply ByteArray.ext
  show s.data = s.data.toList.toArray
  simp
def allW (p : List UInt8 → Bool) : Nat → Bool
  | 0 => p []
  | n + 1 => allW (fun l => p (76 :: l)) n && allW (fun l => p (82 :: l)) n
theorem allW_spec : ∀ (n : Nat) (p : List UInt8 → Bool), allW p n = true → ∀ l : List UInt8, l.length = n → (∀ c ∈ l, c = 76 ∨ c = 82) → p l = true
  | 0, p, h, l, hl, _ => by
    rw [List.length_eq_zero_iff] at hl
    rw [hl]; exact h
  | n + 1, p, h, l, hl, hc => by
    rw [allW, Bool.and_eq_true] at h
    cases l with
    | nil => simp at hl
    | cons c t =>
      have ht : t.length = n := by simpa using hl
      have hct : ∀ x ∈ t, x = 76 ∨ x = 82 := fun x hx => hc x (List.mem_cons_of_mem _ hx)
      rcases hc c List.mem_cons_self with rfl | rfl
      · exact allW_spec n _ h.1 t ht hct
      · exact allW_spec n _ h.2 t ht hct
def allF (p : List UInt8 → Bool) : Bool := allW p 0 && allW p 1 && allW p 2 && allW p 3 && allW p 4 && allW p 5 && allW p 6
theorem isF_list {s : ByteArray} (h : isF s = true) : s = mkb s.data.toList ∧ s.data.toList.length ≤ 6 ∧ ∀ c ∈ s.data.toList, c = 76 ∨ c = 82 := by
  unfold isF at h
  rw [decide_eq_true_iff] at h
  obtain ⟨h1, h2⟩ := h
  refine ⟨mkb_of s, by simpa using h2, fun c hc => ?_⟩
  obtain ⟨i, hi, rfl⟩ := List.mem_iff_getElem.1 hc
  have hi' : i < s.size := by simpa using hi
  have := h1 i hi'
  rw [bt_list s i hi'] at this
  rcases this with e | e
  · left; apply UInt8.toNat_inj.1; exact Int.ofNat.inj e
  · right; apply UInt8.toNat_inj.1; exact Int.ofNat.inj e
theorem allF_spec {p : List UInt8 → Bool} (h : allF p = true) {s : ByteArray} (hs : isF s = true) : p s.data.toList = true := by
  obtain ⟨_, hl, hc⟩ := isF_list hs
  unfold allF at h
  simp only [Bool.and_eq_true] at h
  obtain ⟨⟨⟨⟨⟨⟨h0, h1⟩, h2⟩, h3⟩, h4⟩, h5⟩, h6⟩ := h
  have : s.data.toList.length = 0 ∨ s.data.toList.length = 1 ∨ s.data.toList.length = 2 ∨ s.data.toList.length = 3 ∨ s.data.toList.length = 4 ∨ s.data.toList.length = 5 ∨ s.data.toList.length = 6 := by omega
  rcases this with e | e | e | e | e | e | e
  · exact allW_spec 0 p h0 _ e hc
  · exact allW_spec 1 p h1 _ e hc
  · exact allW_spec 2 p h2 _ e hc
  · exact allW_spec 3 p h3 _ e hc
  · exact allW_spec 4 p h4 _ e hc
  · exact allW_spec 5 p h5 _ e hc
  · exact allW_spec 6 p h6 _ e hc
def stK (l : List UInt8) : Bool := match impl_foldStrip.f 400 (mkb l), spec_l03Stack.f 400 (mkb l) with
  | some a, some b => a.1 == b && decide (b.length ≤ 64)
  | _, _ => false
theorem st_fin : allF stK = true := by decide +kernel
theorem st_two {s : ByteArray} (hs : isF s = true) : ∃ (st : List Int) (cr : ByteArray), Ev (fun k => impl_foldStrip.f k s) (st, cr) ∧ Ev (fun k => spec_l03Stack.f k s) st ∧ st.length ≤ 64 := by
  have h := allF_spec st_fin hs
  unfold stK at h
  rw [← (isF_list hs).1] at h
  cases e1 : impl_foldStrip.f 400 s with
  | none => rw [e1] at h; simp at h
  | some a =>
    cases e2 : spec_l03Stack.f 400 s with
    | none => rw [e1, e2] at h; simp at h
    | some b =>
      rw [e1, e2] at h
      simp only [Bool.and_eq_true, beq_iff_eq, decide_eq_true_eq] at h
      obtain ⟨h1, h2⟩ := h
      refine ⟨a.1, a.2, Ev.of (impl_foldStrip.mono _) e1, ?_, by rw [h1]; exact h2⟩
      rw [h1]
      exact Ev.of (spec_l03Stack.mono _) e2
theorem same_two (x y : List Int) (hx : x.length ≤ 1048576) (hy : y.length ≤ 1048576) : ∃ b : Bool, Ev (fun k => spec_l01Same.f k x y) b ∧ Ev (fun k => slices_Equal_int64_int64.f k x y) b ∧ (b = true ↔ x = y) := by
  unfold spec_l01Same.f slices_Equal_int64_int64.f
  by_cases he : (x.length : Int) = (y.length : Int)
  · have loop : ∀ (d i : Nat), i + d = x.length → (∀ j : Nat, j < i → rd x (j : Int) = rd y (j : Int)) → ∃ b : Bool, Ev (fun k => spec_l01Same.l0 k x y (i : Int)) b ∧ Ev (fun k => slices_Equal_int64_int64.l0 k x y (x.length : Int) (i : Int)) b ∧ (b = true ↔ x = y) := by
      intro d
      induction d with
      | zero =>
        intro i hi h
        refine ⟨true, Ev.step (f := fun _ => some true) (fun k => by rw [spec_l01Same.l0, if_neg (by omega)]) (Ev.now _), Ev.step (f := fun _ => some true) (fun k => by rw [slices_Equal_int64_int64.l0, if_neg (by omega)]) (Ev.now _), ?_⟩
        have : x = y := rd_ext (by omega) (fun j hj => h j (by omega))
        simp [this]
      | succ d ih =>
        intro i hi h
        by_cases e : rd x (i : Int) = rd y (i : Int)
        · obtain ⟨b, h1, h2, h3⟩ := ih (i + 1) (by omega) (fun j hj => by
            by_cases ej : j = i
            · subst ej; exact e
            · exact h j (by omega))
          refine ⟨b, Ev.step (fun k => ?_) h1, Ev.step (fun k => ?_) h2, h3⟩
          · rw [spec_l01Same.l0, if_pos (by omega), if_pos (by omega), if_pos (by omega), if_pos e, w64n i (by omega)]
          · rw [slices_Equal_int64_int64.l0, if_pos (by omega), if_pos (by omega), if_pos (by omega), if_pos (by omega), if_pos e, w64n i (by omega)]
        · refine ⟨false, Ev.step (f := fun _ => some false) (fun k => ?_) (Ev.now _), Ev.step (f := fun _ => some false) (fun k => ?_) (Ev.now _), ?_⟩
          · rw [spec_l01Same.l0, if_pos (by omega), if_pos (by omega), if_pos (by omega), if_neg e]
          · rw [slices_Equal_int64_int64.l0, if_pos (by omega), if_pos (by omega), if_pos (by omega), if_pos (by omega), if_neg e]
          · refine ⟨fun z => (by cases z), fun z => (e (by rw [z])).elim⟩
    obtain ⟨b, h1, h2, h3⟩ := loop x.length 0 (by omega) (fun j hj => by omega)
    exact ⟨b, Ev_ite_t he (Ev.congr (fun k => rfl) h1), Ev_ite_t he (Ev.congr (fun k => rfl) h2), h3⟩
  · refine ⟨false, Ev_ite_f he (Ev.now _), Ev_ite_f he (Ev.now _), ⟨fun z => (by cases z), fun z => (he (by rw [z])).elim⟩⟩
theorem shl_fin : ∀ n : Fin 7, shl .i64 1 (IntKind.u64.wrap ((n.val : Nat) : Int)) = ((2 ^ n.val : Nat) : Int) ∧ 0 ≤ IntKind.u64.wrap ((n.val : Nat) : Int) := by decide +kernel
theorem isF_mkb {l : List UInt8} (h : l.length ≤ 6) (hc : ∀ c ∈ l, c = 76 ∨ c = 82) : isF (mkb l) = true := by
  unfold isF
  rw [decide_eq_true_iff]
  refine ⟨fun i hi => ?_, by rw [mkb_size]; exact h⟩
  rw [bt_list _ i hi]
  have hi' : i < l.length := by rw [mkb_size] at hi; exact hi
  have e : (mkb l).data.toList = l := by show l.toArray.toList = l; simp
  simp only [e]
  rcases hc _ (List.getElem_mem hi') with z | z
  · left; rw [z]; rfl
  · right; rw [z]; rfl
theorem isF_app {d : ByteArray} (h : isF d = true) (hs : d.size < 6) (c : UInt8) (hc : c = 76 ∨ c = 82) : isF (d ++ (⟨#[c]⟩ : ByteArray)) = true := by
  obtain ⟨h1, h2, h3⟩ := isF_list h
  rw [h1]
  show isF (mkb d.data.toList ++ mkb [c]) = true
  rw [mkb_append]
  have hz : d.size = d.data.toList.length := by simp
  refine isF_mkb (by rw [List.length_append]; simp only [List.length_cons, List.length_nil]; omega) (fun x hx => ?_)
  rcases List.mem_append.1 hx with z | z
  · exact h3 x z
  · rw [List.mem_singleton] at z
    rw [z]; exact hc
theorem app_size (d : ByteArray) (c : UInt8) : (d ++ (⟨#[c]⟩ : ByteArray)).size = d.size + 1 := by rw [ByteArray.size_append]; rfl
theorem find_pow (l : List Int) (K : Nat) (hK : K ≤ 6) (hl : l.length = 2 ^ K) : ∀ (m : Nat) (d : ByteArray), isF d = true → d.size + m = K → ∃ (b : Bool) (e : ByteArray), Ev (fun k => spec_l03Find.f k l d) (e, b) ∧ Ev (fun k => af_go (ff_p k l) m d) (b, e) ∧ (b = true → isF e = true ∧ e.size = K ∧ ∃ cr, Ev (fun k => impl_foldStrip.f k e) (l, cr)) := by
  have h64 : l.length ≤ 64 := by
    rw [hl]; exact Nat.pow_le_pow_right (n := 2) (by omega) hK
  intro m
  induction m with
  | zero =>
    intro d hd hs
    obtain ⟨st, cr, h1, h2, h3⟩ := st_two hd
    obtain ⟨b, b1, b2, b3⟩ := same_two st l (by omega) (by omega)
    obtain ⟨s1, s2⟩ := shl_fin ⟨d.size, by omega⟩
    simp only at s1 s2
    have hse : d.size = K := by omega
    refine ⟨b, d, ?_, ?_, fun hb => ⟨hd, hse, cr, ?_⟩⟩
    · refine Ev.step (f := fun k => (spec_l03Stack.f k d).bind fun t168 => ((spec_l01Same.f k t168 l).bind fun t171 => (some (d, t171)))) (fun k => ?_) (Ev.bind h2 (Ev.bind b1 (Ev.now _)))
      rw [spec_l03Find.f, if_pos s2, if_pos (by rw [s1, hl, hse])]
    · show Ev (fun k => (ff_p k l d).bind fun b => some (b, d)) (b, d)
      refine Ev.bind (a := b) ?_ (Ev.now _)
      unfold ff_p
      exact Ev.bind h1 b2
    · rw [← b3.1 hb]; exact h1
  | succ m ih =>
    intro d hd hs
    obtain ⟨s1, s2⟩ := shl_fin ⟨d.size, by omega⟩
    simp only at s1 s2
    obtain ⟨bL, eL, l1, l2, l3⟩ := ih (d ++ (⟨#[76]⟩ : ByteArray)) (isF_app hd (by omega) 76 (.inl rfl)) (by rw [app_size]; omega)
    obtain ⟨bR, eR, r1, r2, r3⟩ := ih (d ++ (⟨#[82]⟩ : ByteArray)) (isF_app hd (by omega) 82 (.inr rfl)) (by rw [app_size]; omega)
    have hlt : 2 ^ d.size < l.length := by rw [hl]; exact Nat.pow_lt_pow_right (by omega) (by omega)
    have hstep : ∀ r, Ev (fun k => (spec_l03Find.f k l (d ++ (⟨#[76]⟩ : ByteArray))).bind fun bt172 => (if bt172.2 = true then (some (bt172.1, true)) else ((spec_l03Find.f k l (d ++ (⟨#[82]⟩ : ByteArray))).bind fun bt174 => (some (bt174.1, bt174.2))))) r → Ev (fun k => spec_l03Find.f k l d) r := fun r hr => Ev.step (fun k => by rw [spec_l03Find.f, if_pos s2, if_neg (by rw [s1]; omega), if_neg (by rw [s1]; omega), if_pos (by omega)]) hr
    cases bL with
    | true =>
      refine ⟨true, eL, hstep _ (Ev.bind l1 (Ev_ite_t rfl (Ev.now _))), ?_, l3⟩
      show Ev (fun k => (af_go (ff_p k l) m (d ++ (⟨#[76]⟩ : ByteArray))).bind fun r => if r.1 = true then some (true, r.2) else af_go (ff_p k l) m (d ++ (⟨#[82]⟩ : ByteArray))) (true, eL)
      exact Ev.bind l2 (Ev_ite_t rfl (Ev.now _))
    | false =>
      refine ⟨bR, eR, hstep _ (Ev.bind l1 (Ev_ite_f (by simp) (Ev.bind r1 (Ev.now _)))), ?_, r3⟩
      show Ev (fun k => (af_go (ff_p k l) m (d ++ (⟨#[76]⟩ : ByteArray))).bind fun r => if r.1 = true then some (true, r.2) else af_go (ff_p k l) m (d ++ (⟨#[82]⟩ : ByteArray))) (bR, eR)
      exact Ev.bind l2 (Ev_ite_f (by simp) r2)
theorem find_short (l : List Int) (K : Nat) (hK : K ≤ 6) (hl : l.length < 2 ^ K) (hj : ∀ j : Nat, j < K → 2 ^ j < l.length) : ∀ (m : Nat) (d : ByteArray), d.size + m = K → ∃ e : ByteArray, Ev (fun k => spec_l03Find.f k l d) (e, false) := by
  intro m
  induction m with
  | zero =>
    intro d hs
    obtain ⟨s1, s2⟩ := shl_fin ⟨d.size, by omega⟩
    simp only at s1 s2
    obtain rfl : d.size = K := by omega
    exact ⟨(⟨#[]⟩ : ByteArray), Ev.step (f := fun _ => some ((⟨#[]⟩ : ByteArray), false)) (fun k => by rw [spec_l03Find.f, if_pos s2, if_neg (by rw [s1]; omega), if_pos (by rw [s1]; omega)]) (Ev.now _)⟩
  | succ m ih =>
    intro d hs
    obtain ⟨s1, s2⟩ := shl_fin ⟨d.size, by omega⟩
    simp only at s1 s2
    obtain ⟨eL, l1⟩ := ih (d ++ (⟨#[76]⟩ : ByteArray)) (by rw [app_size]; omega)
    obtain ⟨eR, r1⟩ := ih (d ++ (⟨#[82]⟩ : ByteArray)) (by rw [app_size]; omega)
    have hlt : 2 ^ d.size < l.length := hj _ (by omega)
    refine ⟨eR, Ev.step (f := fun k => (spec_l03Find.f k l (d ++ (⟨#[76]⟩ : ByteArray))).bind fun bt172 => (if bt172.2 = true then (some (bt172.1, true)) else ((spec_l03Find.f k l (d ++ (⟨#[82]⟩ : ByteArray))).bind fun bt174 => (some (bt174.1, bt174.2))))) (fun k => by rw [spec_l03Find.f, if_pos s2, if_neg (by rw [s1]; omega), if_neg (by rw [s1]; omega), if_pos (by omega)]) (Ev.bind l1 (Ev_ite_f (by simp) (Ev.bind r1 (Ev.now _))))⟩
theorem isF_nil : isF (⟨#[]⟩ : ByteArray) = true := by decide +kernel
theorem findFolds_two (l : List Int) (hl : l.length ≤ 8796093022208) : ∃ r : ByteArray × Int, Ev (fun k => spec_FindFolds.f k l) r ∧ Ev (fun k => impl_FindFolds.f k l) r ∧ (r.2 = 0 → isF r.1 = true ∧ ∃ cr, Ev (fun k => impl_foldStrip.f k r.1) (l, cr)) := by
  obtain ⟨b, h1, h2, h3⟩ := stack_both l hl
  unfold spec_FindFolds.f impl_FindFolds.f
  cases b with
  | false => exact ⟨((⟨#[]⟩ : ByteArray), 1), Ev.bind h1 (Ev_ite_f (by simp) (Ev.now _)), Ev.bind h2 (Ev_ite_f (by simp) (Ev.now _)), fun z => absurd z (by decide)⟩
  | true =>
    obtain ⟨a1, a2, a3⟩ := h3 rfl
    have h64 : l.length ≤ 64 := by
      have := (isOrd_iff.1 a3).1
      rwa [List.length_map] at this
    obtain ⟨f1, f2, f3⟩ := ffk_fin ⟨l.length, by omega⟩
    simp only at f1 f2 f3
    by_cases he : 2 ^ ff_k l.length = l.length
    · obtain ⟨b, e, g1, g2, g3⟩ := find_pow l (ff_k l.length) f1 he.symm (ff_k l.length) (⟨#[]⟩ : ByteArray) isF_nil (by show 0 + _ = _; omega)
      cases b with
      | true =>
        obtain ⟨i1, i2, i3⟩ := g3 rfl
        exact ⟨(e, 0), Ev.bind h1 (Ev_ite_t rfl (Ev.bind g1 (Ev_ite_t rfl (Ev.now _)))), Ev.bind h2 (Ev_ite_t rfl (Ev_ite_t h64 (Ev_ite_t he (Ev.bind g2 (Ev_ite_t rfl (Ev.now _)))))), fun _ => ⟨i1, i3⟩⟩
      | false =>
        exact ⟨((⟨#[]⟩ : ByteArray), 4), Ev.bind h1 (Ev_ite_t rfl (Ev.bind g1 (Ev_ite_f (by simp) (Ev.now _)))), Ev.bind h2 (Ev_ite_t rfl (Ev_ite_t h64 (Ev_ite_t he (Ev.bind g2 (Ev_ite_f (by simp) (Ev.now _)))))), fun z => absurd z (by decide)⟩
    · obtain ⟨e, g1⟩ := find_short l (ff_k l.length) f1 (by omega) (fun j hj => f3 ⟨j, by omega⟩ hj) (ff_k l.length) (⟨#[]⟩ : ByteArray) (by show 0 + _ = _; omega)
      exact ⟨((⟨#[]⟩ : ByteArray), 4), Ev.bind h1 (Ev_ite_t rfl (Ev.bind g1 (Ev_ite_f (by simp) (Ev.now _)))), Ev.bind h2 (Ev_ite_t rfl (Ev_ite_t h64 (Ev_ite_f he (Ev.now _)))), fun z => absurd z (by decide)⟩
theorem trim_nil (cs : List UInt8) : ∀ l : List UInt8, Go.Lib.trimS l cs = [] ↔ ∀ b ∈ l, cs.contains b = true := by
  have dw : ∀ l : List UInt8, l.dropWhile (cs.contains ·) = [] ↔ ∀ b ∈ l, cs.contains b = true := by
    intro l
    induction l with
    | nil => simp
    | cons a t ih =>
      rw [List.dropWhile_cons]
      by_cases h : cs.contains a = true
      · rw [if_pos h, ih]
        exact ⟨fun g b hb => by rcases List.mem_cons.1 hb with rfl | hb; exact h; exact g b hb, fun g b hb => g b (List.mem_cons_of_mem _ hb)⟩
      · rw [if_neg h]
        exact ⟨fun g => (List.cons_ne_nil _ _ g).elim, fun g => absurd (g a List.mem_cons_self) h⟩
  intro l
  unfold Go.Lib.trimS Go.Lib.trimLeftS
  rw [dw]
  unfold Go.Lib.trimRightS
  constructor
  · intro g
    have e : l.reverse.dropWhile (cs.contains ·) = [] := by
      cases hd : l.reverse.dropWhile (cs.contains ·) with
      | nil => rfl
      | cons a t =>
        have h1 := List.head?_dropWhile_not (cs.contains ·) l.reverse
        rw [hd] at h1 g
        have h2 := g a (by simp)
        simp only [List.head?_cons] at h1
        rw [h2] at h1
        cases h1
    intro b hb
    exact (dw l.reverse).1 e b (List.mem_reverse.2 hb)
  · intro g
    have e := (dw l.reverse).2 (fun b hb => g b (List.mem_reverse.1 hb))
    rw [e]
    intro b hb
    simp at hb
theorem specIsFolds_ev (s : ByteArray) (hl : s.size ≤ 35184372088832) : Ev (fun k => spec_IsFolds.f k s) (isF s) := by
  have loop : ∀ (d i : Nat), i + d = s.size → ∀ b : Bool, (b = true ↔ (∀ j : Nat, i ≤ j → j < s.size → bt s (j : Int) = 76 ∨ bt s (j : Int) = 82) ∧ s.size ≤ 6) → Ev (fun k => spec_IsFolds.l0 k s (i : Int)) b := by
    intro d
    induction d with
    | zero =>
      intro i hi b hb
      have e : b = decide ((s.size : Int) ≤ 6) := by
        rw [Bool.eq_iff_iff, hb, decide_eq_true_iff]
        exact ⟨fun h => by omega, fun h => ⟨fun j h1 h2 => by omega, by omega⟩⟩
      rw [e]
      exact Ev.step (f := fun _ => some (decide ((s.size : Int) ≤ 6))) (fun k => by rw [spec_IsFolds.l0, if_neg (by omega)]) (Ev.now _)
    | succ d ih =>
      intro i hi b hb
      by_cases h1 : bt s (i : Int) = 76 ∨ bt s (i : Int) = 82
      · have h2 := ih (i + 1) (by omega) b (by
          rw [hb]
          refine ⟨fun h => ⟨fun j a c => h.1 j (by omega) c, h.2⟩, fun h => ⟨fun j a c => ?_, h.2⟩⟩
          by_cases e : j = i
          · subst e; exact h1
          · exact h.1 j (by omega) c)
        refine Ev.step (fun k => ?_) h2
        rw [spec_IsFolds.l0, if_pos (by omega), if_pos (by omega), w64n i (by omega)]
        by_cases e : bt s (i : Int) = 76
        · rw [if_pos e]
        · rw [if_neg e, if_pos (by omega)]
      · obtain rfl : b = false := by
          rw [Bool.eq_false_iff]; intro h
          exact h1 ((hb.1 h).1 i (Nat.le_refl _) (by omega))
        refine Ev.step (f := fun _ => some false) (fun k => ?_) (Ev.now _)
        rw [spec_IsFolds.l0, if_pos (by omega), if_pos (by omega), if_neg (by omega), if_neg (by omega)]
  exact Ev.congr (fun k => rfl) (loop s.size 0 (by omega) _ (by unfold isF; rw [decide_eq_true_iff]; exact ⟨fun h => ⟨fun j _ c => h.1 j c, h.2⟩, fun h => ⟨fun j c => h.1 j (by omega) c, h.2⟩⟩))
theorem implIsFolds_eq (s : ByteArray) : impl_IsFolds.f s = some (isF s) := by
  unfold impl_IsFolds.f
  by_cases h : (s.size : Int) ≤ 6
  · rw [if_pos h]
    congr 1
    unfold isF
    rw [decide_eq_decide, trim_nil]
    constructor
    · intro g
      refine ⟨fun i hi => ?_, by omega⟩
      rw [bt_list s i hi]
      have := g _ (List.getElem_mem (l := s.data.toList) (n := i) (by simpa using hi))
      simp only [List.contains_cons, List.contains_nil, Bool.or_false, Bool.or_eq_true, beq_iff_eq] at this
      rcases this with e | e
      · rw [e]; left; rfl
      · rw [e]; right; rfl
    · rintro ⟨g, _⟩ b hb
      obtain ⟨i, hi, rfl⟩ := List.mem_iff_getElem.1 hb
      have hi' : i < s.size := by simpa using hi
      have := g i hi'
      rw [bt_list s i hi'] at this
      simp only [List.contains_cons, List.contains_nil, Bool.or_false, Bool.or_eq_true, beq_iff_eq]
      rcases this with e | e
      · left; apply UInt8.toNat_inj.1; exact Int.ofNat.inj e
      · right; apply UInt8.toNat_inj.1; exact Int.ofNat.inj e
  · rw [if_neg h]
    congr 1
    unfold isF
    symm
    rw [decide_eq_false_iff_not]
    rintro ⟨_, g⟩
    omega
theorem lim_fin : ∀ n : Fin 7, wrap64 (wrap64 (2 ^ min n.val 64) - 1) = ((2 ^ n.val : Nat) : Int) - 1 := by decide +kernel
def plK (l : List UInt8) : Bool := match impl_foldStrip.f 400 (mkb l), spec_l03Stack.f 400 (mkb l) with
  | some a, some b => a.1 == b && (List.range (2 ^ l.length)).all (fun c => a.1.any (fun x => x == (c : Int) + 1 || x == -((c : Int) + 1))) && a.1.all (fun x => decide (1 ≤ mx x (-x) ∧ -64 ≤ x ∧ x ≤ 64 ∧ mx x (-x) ≤ ((2 ^ l.length : Nat) : Int))) && decide (a.1.length ≤ 64)
  | _, _ => false
theorem pl_0 : allW plK 0 = true := by decide +kernel
theorem pl_1 : allW plK 1 = true := by decide +kernel
theorem pl_2 : allW plK 2 = true := by decide +kernel
theorem pl_3 : allW plK 3 = true := by decide +kernel
theorem pl_4 : allW plK 4 = true := by decide +kernel
theorem pl_5 : allW plK 5 = true := by decide +kernel
theorem pl_6 : allW plK 6 = true := by decide +kernel
theorem pl_fin : allF plK = true := by
  unfold allF
  rw [pl_0, pl_1, pl_2, pl_3, pl_4, pl_5, pl_6]
  rfl
theorem place_none (p : Int → Bool) : ∀ (l : List Int) (i : Int), (∀ x ∈ l, p x = false) → place_idx p l i = -1
  | [], i, _ => rfl
  | x :: t, i, h => by
    rw [place_idx, if_neg (by rw [h x (by simp)]; simp)]
    exact place_none p t (i + 1) (fun y hy => h y (by simp [hy]))
theorem place_ge (p : Int → Bool) : ∀ (l : List Int) (i : Int), 0 ≤ i → place_idx p l i = -1 ∨ i ≤ place_idx p l i
  | [], i, _ => .inl rfl
  | x :: t, i, h => by
    rw [place_idx]
    by_cases hx : p x = true
    · rw [if_pos hx]; exact .inr (Int.le_refl _)
    · rw [if_neg hx]
      rcases place_ge p t (i + 1) (by omega) with h1 | h1
      · exact .inl h1
      · exact .inr (by omega)
theorem place_some (p : Int → Bool) : ∀ (l : List Int) (i : Int), 0 ≤ i → (∃ x ∈ l, p x = true) → 0 ≤ place_idx p l i
  | [], i, _, h => by obtain ⟨x, hx, _⟩ := h; simp at hx
  | y :: t, i, h0, h => by
    rw [place_idx]
    by_cases hy : p y = true
    · rw [if_pos hy]; exact h0
    · rw [if_neg hy]
      obtain ⟨x, hx, hp⟩ := h
      rcases List.mem_cons.1 hx with rfl | hx
      · exact (hy hp).elim
      · exact place_some p t (i + 1) (by omega) ⟨x, hx, hp⟩
theorem neg64 {x : Int} (h0 : -64 ≤ x) (h1 : x ≤ 64) : wrap64 (-x) = -x := w64 (by omega) (by omega)
theorem mx_abs {x c : Int} (hc : 0 ≤ c) (h : x = c + 1 ∨ x = -(c + 1)) : mx x (-x) = c + 1 := by
  unfold mx
  split <;> omega
theorem place_three {s : ByteArray} (hs : isF s = true) : ∃ (st : List Int) (cr : ByteArray), Ev (fun k => impl_foldStrip.f k s) (st, cr) ∧ Ev (fun k => spec_l03Stack.f k s) st ∧ st.length ≤ 64 ∧ (∀ c : Int, 0 ≤ c → c < ((2 ^ s.data.toList.length : Nat) : Int) → 0 ≤ place_idx (place_is c) st 0) ∧ (∀ x ∈ st, 1 ≤ mx x (-x) ∧ -64 ≤ x ∧ x ≤ 64 ∧ mx x (-x) ≤ ((2 ^ s.data.toList.length : Nat) : Int)) := by
  have h := allF_spec pl_fin hs
  unfold plK at h
  rw [← (isF_list hs).1] at h
  cases e1 : impl_foldStrip.f 400 s with
  | none => rw [e1] at h; simp at h
  | some a =>
    cases e2 : spec_l03Stack.f 400 s with
    | none => rw [e1, e2] at h; simp at h
    | some b =>
      rw [e1, e2] at h
      simp only [Bool.and_eq_true, beq_iff_eq, decide_eq_true_eq] at h
      obtain ⟨⟨⟨h1, h2⟩, h3⟩, h4⟩ := h
      refine ⟨a.1, a.2, Ev.of (impl_foldStrip.mono _) e1, ?_, h4, ?_, ?_⟩
      · rw [h1]; exact Ev.of (spec_l03Stack.mono _) e2
      · intro c c0 c1
        obtain ⟨m, rfl⟩ := Int.eq_ofNat_of_zero_le c0
        have h6 := List.all_eq_true.1 h2 m (List.mem_range.2 (by omega))
        obtain ⟨x, hx, h7⟩ := List.any_eq_true.1 h6
        have h8 := of_decide_eq_true (List.all_eq_true.1 h3 x hx)
        refine place_some _ _ _ (by omega) ⟨x, hx, ?_⟩
        have h9 : x = (m : Int) + 1 ∨ x = -((m : Int) + 1) := by simpa using h7
        unfold place_is
        rw [neg64 h8.2.1 h8.2.2.1, mx_abs (by omega) h9, w64 (by omega) (by omega)]
        exact beq_self_eq_true _
      · intro x hx
        exact of_decide_eq_true (List.all_eq_true.1 h3 x hx)
theorem place_test {x c : Int} (h : 1 ≤ mx x (-x) ∧ -64 ≤ x ∧ x ≤ 64) (hm : mx x (-x) ≤ 64) (c0 : -9223372036854775808 ≤ c) (c1 : c ≤ 9223372036854775807) : place_is c x = true ↔ wrap64 ((mx x (wrap64 (-x))) - 1) = c := by
  unfold place_is
  rw [neg64 h.2.1 h.2.2, w64 (x := mx x (-x) - 1) (by omega) (by omega), beq_iff_eq]
  by_cases hc : c = 9223372036854775807
  · rw [hc, show wrap64 (9223372036854775807 + 1) = -9223372036854775808 by decide +kernel]
    omega
  · rw [w64 (x := c + 1) (by omega) (by omega)]
    omega
theorem specPlace_ev (s : ByteArray) (c : Int) (hl : s.size ≤ 35184372088832) (c0 : -9223372036854775808 ≤ c) (c1 : c ≤ 9223372036854775807) : ∃ v, Ev (fun k => spec_PlaceOf.f k s c) v ∧ Ev (fun k => impl_PlaceOf.f k s c) v ∧ (isF s = true → 0 ≤ c → c < ((2 ^ s.data.toList.length : Nat) : Int) → ∃ st cr, Ev (fun k => impl_foldStrip.f k s) (st, cr) ∧ v = (place_idx (place_is c) st 0, 0)) := by
  by_cases hf : isF s = true
  · obtain ⟨st, cr, h1, h2, h3, h4, h5⟩ := place_three hf
    have hlen : s.data.toList.length ≤ 6 := (isF_list hf).2.1
    have hsz : s.size = s.data.toList.length := by simp
    have hp2 : (2 : Nat) ^ s.data.toList.length ≤ 2 ^ 6 := Nat.pow_le_pow_right (by omega) hlen
    have hspec : Ev (fun k => spec_PlaceOf.f k s c) (if place_idx (place_is c) st 0 < 0 then (0, 2) else (place_idx (place_is c) st 0, 0)) := by
      unfold spec_PlaceOf.f
      refine Ev.bind (specIsFolds_ev s hl) (Ev_ite_t hf (Ev.bind h2 ?_))
      have loop : ∀ (d i : Nat), i + d = st.length → Ev (fun k => spec_PlaceOf.l0 k c st (i : Int)) (if place_idx (place_is c) (st.drop i) (i : Int) < 0 then (0, 2) else (place_idx (place_is c) (st.drop i) (i : Int), 0)) := by
        intro d
        induction d with
        | zero =>
          intro i hi
          rw [List.drop_of_length_le (by omega), place_idx, if_pos (by omega)]
          exact Ev.step (f := fun _ => some (0, 2)) (fun k => by rw [spec_PlaceOf.l0, if_neg (by omega)]) (Ev.now _)
        | succ d ih =>
          intro i hi
          have hil : i < st.length := by omega
          have hm := h5 (rd st (i : Int)) (rd_mem (by omega))
          have ht := place_test (x := rd st (i : Int)) (c := c) ⟨hm.1, hm.2.1, hm.2.2.1⟩ (by omega) c0 c1
          have hd : st.drop i = rd st (i : Int) :: st.drop (i + 1) := by
            rw [List.drop_eq_getElem_cons hil]
            simp [rd, List.getD_eq_getElem?_getD, hil]
          rw [hd, place_idx]
          by_cases hx : place_is c (rd st (i : Int)) = true
          · rw [if_pos hx, if_neg (by omega)]
            exact Ev.step (f := fun _ => some ((i : Int), 0)) (fun k => by rw [spec_PlaceOf.l0, if_pos (by omega), if_pos (by omega), if_pos (ht.1 hx)]) (Ev.now _)
          · rw [if_neg hx]
            refine Ev.step (fun k => ?_) (ih (i + 1) (by omega))
            rw [spec_PlaceOf.l0, if_pos (by omega), if_pos (by omega), if_neg (fun z => hx (ht.2 z)), w64n i (by omega)]
      have := loop st.length 0 (by omega)
      rw [List.drop_zero] at this
      exact Ev.congr (fun k => rfl) this
    by_cases hr : 0 ≤ c ∧ c < ((2 ^ s.data.toList.length : Nat) : Int)
    · have hge := h4 c hr.1 hr.2
      rw [if_neg (by omega)] at hspec
      refine ⟨_, hspec, ?_, fun _ _ _ => ⟨st, cr, h1, rfl⟩⟩
      unfold impl_PlaceOf.f
      rw [implIsFolds_eq]
      simp only [Option.bind_some, if_pos hf, inRange_eq, decide_eq_true_eq]
      have hlim := lim_fin ⟨s.size, by omega⟩
      simp only at hlim
      rw [hlim, hsz]
      simp only [if_pos (show 0 ≤ c ∧ c ≤ ((2 ^ s.data.toList.length : Nat) : Int) - 1 by omega)]
      exact Ev.bind h1 (Ev.now _)
    · have hno : place_idx (place_is c) st 0 = -1 := by
        apply place_none
        intro x hx
        have hm := h5 x hx
        have ht := place_test (x := x) (c := c) ⟨hm.1, hm.2.1, hm.2.2.1⟩ (by omega) c0 c1
        rw [Bool.eq_false_iff]
        intro z
        have := ht.1 z
        rw [neg64 hm.2.1 hm.2.2.1, w64 (by omega) (by omega)] at this
        omega
      rw [hno, if_pos (by omega)] at hspec
      refine ⟨_, hspec, ?_, fun _ a b => (hr ⟨a, b⟩).elim⟩
      unfold impl_PlaceOf.f
      rw [implIsFolds_eq]
      simp only [Option.bind_some, if_pos hf, inRange_eq, decide_eq_true_eq]
      have hlim := lim_fin ⟨s.size, by omega⟩
      simp only at hlim
      rw [hlim, hsz]
      simp only [if_neg (show ¬ (0 ≤ c ∧ c ≤ ((2 ^ s.data.toList.length : Nat) : Int) - 1) by omega)]
      exact Ev.now _
  · refine ⟨(0, 1), ?_, ?_, fun z => (hf z).elim⟩
    · unfold spec_PlaceOf.f
      exact Ev.bind (specIsFolds_ev s hl) (Ev_ite_f hf (Ev.now _))
    · unfold impl_PlaceOf.f
      rw [implIsFolds_eq]
      simp only [Option.bind_some, if_neg hf]
      exact Ev.now _
theorem fold_two (s : ByteArray) (hl : s.size ≤ 35184372088832) : ∃ v : List Int × Int, Ev (fun k => impl_FoldStrip.f k s) v ∧ Ev (fun k => spec_FoldStrip.f k s) v ∧ v.1.length ≤ 64 ∧ (isF s = true ↔ v.2 = 0) := by
  by_cases hf : isF s = true
  · obtain ⟨st, cr, h1, h2, h3⟩ := st_two hf
    refine ⟨(st, 0), ?_, ?_, h3, by simp [hf]⟩
    · unfold impl_FoldStrip.f
      rw [implIsFolds_eq]
      simp only [Option.bind_some, if_pos hf]
      exact Ev.bind h1 (Ev.now _)
    · unfold spec_FoldStrip.f
      exact Ev.bind (specIsFolds_ev s hl) (Ev_ite_t hf (Ev.bind h2 (Ev.now _)))
  · refine ⟨([], 1), ?_, ?_, by simp, by simp [hf]⟩
    · unfold impl_FoldStrip.f
      rw [implIsFolds_eq]
      simp only [Option.bind_some, if_neg hf]
      exact Ev.now _
    · unfold spec_FoldStrip.f
      exact Ev.bind (specIsFolds_ev s hl) (Ev_ite_f hf (Ev.now _))
def cfK (l : List UInt8) : Bool := match impl_foldStrip.f 400 (mkb l), spec_l03Stack.f 400 (mkb l) with
  | some a, some b => a.1 == b && (match impl_CountFaces.l0 100 a.1 0 a.1 (a.1.length : Int) 0, spec_CountFaces.l0 100 a.1 0 0 with
    | some x, some y => x == y
    | _, _ => false)
  | _, _ => false
theorem cf_fin : allF cfK = true := by decide +kernel
theorem cf_two (s : ByteArray) (hl : s.size ≤ 35184372088832) : ∃ v : Int × Int × Int, Ev (fun k => impl_CountFaces.f k s) v ∧ Ev (fun k => spec_CountFaces.f k s) v := by
  by_cases hf : isF s = true
  · have h := allF_spec cf_fin hf
    unfold cfK at h
    rw [← (isF_list hf).1] at h
    cases e1 : impl_foldStrip.f 400 s with
    | none => rw [e1] at h; simp at h
    | some a =>
      cases e2 : spec_l03Stack.f 400 s with
      | none => rw [e1, e2] at h; simp at h
      | some b =>
        rw [e1, e2] at h
        simp only [Bool.and_eq_true, beq_iff_eq] at h
        obtain ⟨hab, h⟩ := h
        subst hab
        cases e3 : impl_CountFaces.l0 100 a.1 0 a.1 (a.1.length : Int) 0 with
        | none => rw [e3] at h; simp at h
        | some x =>
          cases e4 : spec_CountFaces.l0 100 a.1 0 0 with
          | none => rw [e3, e4] at h; simp at h
          | some y =>
            rw [e3, e4] at h
            simp only [beq_iff_eq] at h
            subst h
            refine ⟨x, ?_, ?_⟩
            · unfold impl_CountFaces.f
              rw [implIsFolds_eq]
              simp only [Option.bind_some, if_pos hf]
              exact Ev.bind (Ev.of (impl_foldStrip.mono _) e1) (Ev.of (fun k => impl_CountFaces.mono_l k _ _ _ _ _) e3)
            · unfold spec_CountFaces.f
              exact Ev.bind (specIsFolds_ev s hl) (Ev_ite_t hf (Ev.bind (Ev.of (spec_l03Stack.mono _) e2) (Ev.of (fun k => spec_CountFaces.mono_l k _ _ _) e4)))
  · refine ⟨(0, 0, 1), ?_, ?_⟩
    · unfold impl_CountFaces.f
      rw [implIsFolds_eq]
      simp only [Option.bind_some, if_neg hf]
      exact Ev.now _
    · unfold spec_CountFaces.f
      exact Ev.bind (specIsFolds_ev s hl) (Ev_ite_f hf (Ev.now _))
def Src (c : List Int) (a s : Int) : Prop := c.length ≤ 4096 ∧ (∀ x ∈ c, 0 ≤ x ∧ x ≤ 255) ∧ 0 ≤ a ∧ a ≤ c.length ∧ 0 ≤ s ∧ s < 2147483647
theorem tmod_range {x m : Int} (h : 0 ≤ x) (hm : 0 < m) : 0 ≤ Int.tmod x m ∧ Int.tmod x m < m := ⟨Int.tmod_nonneg _ h, Int.tmod_lt_of_pos _ hm⟩
theorem rd_byte {c : List Int} (hc : ∀ x ∈ c, 0 ≤ x ∧ x ≤ 255) (i : Int) : 0 ≤ rd c i ∧ rd c i ≤ 255 := by
  unfold rd
  by_cases h : i.toNat < c.length
  · simp only [List.getD_eq_getElem?_getD, List.getElem?_eq_getElem h, Option.getD_some]
    exact hc _ (List.getElem_mem h)
  · simp only [List.getD_eq_getElem?_getD, List.getElem?_eq_none (Nat.le_of_not_lt h), Option.getD_none]
    omega
theorem next_ok {c : List Int} {a s : Int} (h : Src c a s) (n : Int) (hn : n ≤ 9000000000000000000) :
    ∃ r a' s', spec_l01Next.f c a s n = some (r, a', s') ∧ Src c a' s' ∧ 0 ≤ r ∧ (1 ≤ n → r < n) := by
  obtain ⟨h1, h2, h3, h4, h5, h6⟩ := h
  unfold spec_l01Next.f
  by_cases hn1 : n ≤ 1
  · rw [if_pos hn1]
    exact ⟨0, a, s, rfl, ⟨h1, h2, h3, h4, h5, h6⟩, by omega, by omega⟩
  · rw [if_neg hn1]
    have e1 : wrap64 (wrap64 (s * 48271) + 61) = s * 48271 + 61 := by rw [w64 (x := s * 48271) (by omega) (by omega), w64 (by omega) (by omega)]
    rw [e1]
    have m1 := tmod_range (x := s * 48271 + 61) (m := 2147483647) (by omega) (by omega)
    generalize Int.tmod (s * 48271 + 61) 2147483647 = s1 at *
    have d1 : 0 ≤ Int.tdiv s1 31 ∧ Int.tdiv s1 31 ≤ 2147483647 := by
      rw [Int.tdiv_eq_ediv_of_nonneg m1.1]; omega
    rw [w64 (x := Int.tdiv s1 31) (by omega) (by omega)]
    generalize Int.tdiv s1 31 = q at *
    by_cases ha : a < (c.length : Int)
    · have e2 : wrap64 (a + 1) = a + 1 := w64 (by omega) (by omega)
      have e3 : wrap64 (a + 1 - 1) = a := by rw [w64 (by omega) (by omega)]; omega
      have b1 := rd_byte h2 a
      rw [if_pos ha, if_pos h3, e2, e3, w64 (x := rd c a) (by omega) (by omega), w64 (x := q + rd c a) (by omega) (by omega)]
      have r1 := tmod_range (x := rd c a) (m := n) b1.1 (by omega)
      have r2 := tmod_range (x := q + rd c a) (m := n) (by omega) (by omega)
      have hs : Src c (a + 1) s1 := ⟨h1, h2, by omega, by omega, m1.1, m1.2⟩
      by_cases hb : n ≤ 256
      · rw [if_pos hb]
        by_cases hc : Int.tmod (a + 1) 2 = 0
        · rw [if_pos hc, if_pos h3, if_pos ha, if_neg (by omega)]
          exact ⟨_, _, _, rfl, hs, r1.1, fun _ => r1.2⟩
        · rw [if_neg hc, if_neg (by omega)]
          exact ⟨_, _, _, rfl, hs, r2.1, fun _ => r2.2⟩
      · rw [if_neg hb, if_neg (by omega)]
        exact ⟨_, _, _, rfl, hs, r2.1, fun _ => r2.2⟩
    · rw [if_neg ha, if_neg (by omega)]
      have r1 := tmod_range (x := q) (m := n) (by omega) (by omega)
      exact ⟨_, _, _, rfl, ⟨h1, h2, h3, h4, m1.1, m1.2⟩, r1.1, fun _ => r1.2⟩
theorem from_ok (c : List Int) (hc : c.length ≤ 4096) (hb : ∀ x ∈ c, 0 ≤ x ∧ x ≤ 255) : ∃ a s, Ev (fun k => spec_l01From.f k c) (c, a, s) ∧ Src c a s := by
  have loop : ∀ (d i : Nat), i + d = c.length → ∀ s : Int, 0 ≤ s → s < 2147483647 → ∃ s', 0 ≤ s' ∧ s' < 2147483647 ∧ Ev (fun k => spec_l01From.l0 k c (i : Int) c 0 s) (c, 0, s') := by
    intro d
    induction d with
    | zero =>
      intro i hi s h0 h1
      exact ⟨s, h0, h1, Ev.step (f := fun _ => some (c, 0, s)) (fun k => by rw [spec_l01From.l0, if_neg (by omega)]) (Ev.now _)⟩
    | succ d ih =>
      intro i hi s h0 h1
      by_cases h64 : i < 64
      · have b1 := rd_byte hb (i : Int)
        have e1 : wrap64 (wrap64 (s * 71) + wrap64 (rd c (i : Int))) = s * 71 + rd c (i : Int) := by
          rw [w64 (x := s * 71) (by omega) (by omega), w64 (x := rd c (i : Int)) (by omega) (by omega), w64 (by omega) (by omega)]
        have m1 := tmod_range (x := s * 71 + rd c (i : Int)) (m := 2147483647) (by omega) (by omega)
        obtain ⟨s', g0, g1, g2⟩ := ih (i + 1) (by omega) (Int.tmod (s * 71 + rd c (i : Int)) 2147483647) m1.1 m1.2
        refine ⟨s', g0, g1, Ev.step (fun k => ?_) g2⟩
        rw [spec_l01From.l0, if_pos (by omega), if_pos (by omega), if_pos (by omega), w64n i (by omega), e1]
      · exact ⟨s, h0, h1, Ev.step (f := fun _ => some (c, 0, s)) (fun k => by rw [spec_l01From.l0, if_pos (by omega), if_neg (by omega)]) (Ev.now _)⟩
  obtain ⟨s', g0, g1, g2⟩ := loop c.length 0 (by omega) 88007 (by omega) (by omega)
  exact ⟨0, s', Ev.congr (fun k => rfl) g2, hc, hb, by omega, by omega, g0, g1⟩
theorem strOf_size (l : List Int) : (strOfNums l).size = l.length := by
  show (List.map _ l).toArray.size = _
  simp
theorem drawFolds_ok {c : List Int} {a s : Int} (h0 : Src c a s) : ∃ t a' s', Ev (fun k => spec_l03Draw.f k c a s) (t, a', s') ∧ Src c a' s' ∧ t.size ≤ 7 := by
  obtain ⟨r, a1, s1, e1, h1, r0, r1⟩ := next_ok h0 7 (by omega)
  have r2 := r1 (by omega)
  have loop : ∀ (d : Nat) (x : List Int) (a s : Int), Src c a s → x.length + d ≤ 6 → ∃ t a' s', Ev (fun k => spec_l03Draw.l0 k x (d : Int) c a s) (t, a', s') ∧ Src c a' s' ∧ t.size ≤ 7 := by
    intro d
    induction d with
    | zero =>
      intro x a s h hx
      obtain ⟨m, a2, s2, e2, h2, m0, _⟩ := next_ok h 40 (by omega)
      have hz := strOf_size x
      by_cases m1 : m = 0
      · refine ⟨_, a2, s2, Ev.step (f := fun _ => some ((strOfNums x) ++ (⟨#[120]⟩ : ByteArray), a2, s2)) (fun k => ?_) (Ev.now _), h2, ?_⟩
        · rw [spec_l03Draw.l0, if_neg (by omega), e2]
          simp only [Option.bind_some]
          rw [if_pos m1, if_pos (by omega)]
        · rw [ByteArray.size_append]
          show (strOfNums x).size + 1 ≤ 7
          omega
      · by_cases m2 : m = 1
        · refine ⟨_, a2, s2, Ev.step (f := fun _ => some ((⟨#[76, 82, 76, 82, 76, 82, 76]⟩ : ByteArray), a2, s2)) (fun k => ?_) (Ev.now _), h2, Nat.le_refl _⟩
          rw [spec_l03Draw.l0, if_neg (by omega), e2]
          simp only [Option.bind_some]
          rw [if_neg m1, if_pos m2]
        · refine ⟨_, a2, s2, Ev.step (f := fun _ => some (strOfNums x, a2, s2)) (fun k => ?_) (Ev.now _), h2, by omega⟩
          rw [spec_l03Draw.l0, if_neg (by omega), e2]
          simp only [Option.bind_some]
          rw [if_neg m1, if_neg m2]
    | succ d ih =>
      intro x a s h hx
      obtain ⟨m, a2, s2, e2, h2, m0, m1⟩ := next_ok h 2 (by omega)
      have m2 := m1 (by omega)
      obtain ⟨t, a', s', g1, g2, g3⟩ := ih (x ++ [bt (⟨#[76, 82]⟩ : ByteArray) m]) a2 s2 h2 (by rw [List.length_append]; simp; omega)
      refine ⟨t, a', s', Ev.step (fun k => ?_) g1, g2, g3⟩
      rw [spec_l03Draw.l0, if_pos (by omega), e2]
      simp only [Option.bind_some]
      rw [if_pos m0, if_pos m2, if_pos (by omega), w64 (x := ((d + 1 : Nat) : Int) - 1) (by omega) (by omega)]
      congr 1
      omega
  obtain ⟨t, a', s', g1, g2, g3⟩ := loop r.toNat [] a1 s1 h1 (by simp; omega)
  refine ⟨t, a', s', ?_, g2, g3⟩
  unfold spec_l03Draw.f
  simp only [e1, Option.bind_some]
  rw [show r = ((r.toNat : Nat) : Int) by omega]
  exact g1
theorem pick_ok {c : List Int} {a s : Int} (h : Src c a s) (l : List Int) (h0 : 0 < l.length) (h1 : l.length ≤ 1000) :
    ∃ r a' s', spec_l01Pick.f c a s l = some (r, a', s') ∧ Src c a' s' ∧ r ∈ l := by
  obtain ⟨r, a', s', e, hs, h2, h3⟩ := next_ok h (l.length : Int) (by omega)
  have h4 := h3 (by omega)
  unfold spec_l01Pick.f
  rw [e]
  simp only [Option.bind_some]
  rw [if_pos h2, if_pos h4]
  refine ⟨_, _, _, rfl, hs, ?_⟩
  obtain ⟨m, rfl⟩ := Int.eq_ofNat_of_zero_le h2
  exact rd_mem (by omega)
theorem ev_unique {α : Type} {g : Nat → Option α} {a b : α} (ha : Ev g a) (hb : Ev g b) : a = b := by
  obtain ⟨n, hn⟩ := ha
  obtain ⟨m, hm⟩ := hb
  exact Option.some.inj ((hn (max n m) (Nat.le_max_left _ _)).symm.trans (hm (max n m) (Nat.le_max_right _ _)))
def dcd : Nat → Nat → List UInt8 × Bool
  | 0, _ => ([], false)
  | m + 1, p => if p < 2 ^ m then ((dcd m (2 ^ m - 1 - p)).1 ++ [if (dcd m (2 ^ m - 1 - p)).2 then 82 else 76], !(dcd m (2 ^ m - 1 - p)).2) else ((dcd m (p - 2 ^ m)).1 ++ [if (dcd m (p - 2 ^ m)).2 then 76 else 82], (dcd m (p - 2 ^ m)).2)
def one_at (l : List Int) : Nat := l.findIdx (fun x => x == 1 || x == -1)
def fsA (l : List UInt8) : Bool := match impl_foldStrip.f 400 (mkb l), spec_l03Stack.f 400 (mkb l) with
  | some a, some b => a.1 == b && decide (a.1.length = 2 ^ l.length) && ((dcd l.length (one_at a.1)).1 == l)
  | _, _ => false
def fsB (l : List UInt8) : Bool := match impl_foldStrip.f 400 (mkb l) with
  | some a => impl_isStack.f 400 a.1 == some true
  | _ => false
def fsC (l : List UInt8) : Bool := match impl_foldStrip.f 400 (mkb l) with
  | some a => (match impl_CountFaces.l0 100 a.1 0 a.1 (a.1.length : Int) 0 with | some x => decide (x.2.2 = 0 ∧ x.1 + x.2.1 = ((2 ^ l.length : Nat) : Int) ∧ -100 ≤ x.1 ∧ x.1 ≤ 100) && (l == [] || x.1 == x.2.1) | none => false)
  | _ => false
theorem fsA_0 : allW fsA 0 = true := by decide +kernel
theorem fsA_1 : allW fsA 1 = true := by decide +kernel
theorem fsA_2 : allW fsA 2 = true := by decide +kernel
theorem fsA_3 : allW fsA 3 = true := by decide +kernel
theorem fsA_4 : allW fsA 4 = true := by decide +kernel
theorem fsA_5 : allW fsA 5 = true := by decide +kernel
theorem fsA_600 : allW (fun l => fsA (76 :: 76 :: l)) 4 = true := by decide +kernel
theorem fsA_601 : allW (fun l => fsA (76 :: 82 :: l)) 4 = true := by decide +kernel
theorem fsA_610 : allW (fun l => fsA (82 :: 76 :: l)) 4 = true := by decide +kernel
theorem fsA_611 : allW (fun l => fsA (82 :: 82 :: l)) 4 = true := by decide +kernel
theorem fsA_fin : allF fsA = true := by
  unfold allF
  rw [fsA_0, fsA_1, fsA_2, fsA_3, fsA_4, fsA_5]
  have h : allW fsA 6 = true := by
    show ((allW (fun l => fsA (76 :: 76 :: l)) 4 && allW (fun l => fsA (76 :: 82 :: l)) 4) && (allW (fun l => fsA (82 :: 76 :: l)) 4 && allW (fun l => fsA (82 :: 82 :: l)) 4)) = true
    rw [fsA_600, fsA_601, fsA_610, fsA_611]
    rfl
  rw [h]
  rfl
theorem fsB_0 : allW fsB 0 = true := by decide +kernel
theorem fsB_1 : allW fsB 1 = true := by decide +kernel
theorem fsB_2 : allW fsB 2 = true := by decide +kernel
theorem fsB_3 : allW fsB 3 = true := by decide +kernel
theorem fsB_4 : allW fsB 4 = true := by decide +kernel
theorem fsB_5 : allW fsB 5 = true := by decide +kernel
theorem fsB_600 : allW (fun l => fsB (76 :: 76 :: l)) 4 = true := by decide +kernel
theorem fsB_601 : allW (fun l => fsB (76 :: 82 :: l)) 4 = true := by decide +kernel
theorem fsB_610 : allW (fun l => fsB (82 :: 76 :: l)) 4 = true := by decide +kernel
theorem fsB_611 : allW (fun l => fsB (82 :: 82 :: l)) 4 = true := by decide +kernel
theorem fsB_fin : allF fsB = true := by
  unfold allF
  rw [fsB_0, fsB_1, fsB_2, fsB_3, fsB_4, fsB_5]
  have h : allW fsB 6 = true := by
    show ((allW (fun l => fsB (76 :: 76 :: l)) 4 && allW (fun l => fsB (76 :: 82 :: l)) 4) && (allW (fun l => fsB (82 :: 76 :: l)) 4 && allW (fun l => fsB (82 :: 82 :: l)) 4)) = true
    rw [fsB_600, fsB_601, fsB_610, fsB_611]
    rfl
  rw [h]
  rfl
theorem fsC_0 : allW fsC 0 = true := by decide +kernel
theorem fsC_1 : allW fsC 1 = true := by decide +kernel
theorem fsC_2 : allW fsC 2 = true := by decide +kernel
theorem fsC_3 : allW fsC 3 = true := by decide +kernel
theorem fsC_4 : allW fsC 4 = true := by decide +kernel
theorem fsC_5 : allW fsC 5 = true := by decide +kernel
theorem fsC_600 : allW (fun l => fsC (76 :: 76 :: l)) 4 = true := by decide +kernel
theorem fsC_601 : allW (fun l => fsC (76 :: 82 :: l)) 4 = true := by decide +kernel
theorem fsC_610 : allW (fun l => fsC (82 :: 76 :: l)) 4 = true := by decide +kernel
theorem fsC_611 : allW (fun l => fsC (82 :: 82 :: l)) 4 = true := by decide +kernel
theorem fsC_fin : allF fsC = true := by
  unfold allF
  rw [fsC_0, fsC_1, fsC_2, fsC_3, fsC_4, fsC_5]
  have h : allW fsC 6 = true := by
    show ((allW (fun l => fsC (76 :: 76 :: l)) 4 && allW (fun l => fsC (76 :: 82 :: l)) 4) && (allW (fun l => fsC (82 :: 76 :: l)) 4 && allW (fun l => fsC (82 :: 82 :: l)) 4)) = true
    rw [fsC_600, fsC_601, fsC_610, fsC_611]
    rfl
  rw [h]
  rfl
theorem fs_all {s : ByteArray} (hs : isF s = true) : ∃ (st : List Int) (cr : ByteArray), Ev (fun k => impl_foldStrip.f k s) (st, cr) ∧ Ev (fun k => spec_l03Stack.f k s) st ∧ st.length = 2 ^ s.size ∧ (dcd s.size (one_at st)).1 = s.data.toList ∧ Ev (fun k => impl_isStack.f k st) true ∧ ∃ u d : Int, Ev (fun k => impl_CountFaces.l0 k st 0 st (st.length : Int) 0) (u, d, 0) ∧ u + d = ((2 ^ s.size : Nat) : Int) ∧ -100 ≤ u ∧ u ≤ 100 ∧ (s.data.toList = [] ∨ u = d) := by
  have h := allF_spec fsA_fin hs
  have hB := allF_spec fsB_fin hs
  have hC := allF_spec fsC_fin hs
  have hz : s.size = s.data.toList.length := by simp
  unfold fsA at h
  unfold fsB at hB
  unfold fsC at hC
  rw [← (isF_list hs).1, ← hz] at h hC
  rw [← (isF_list hs).1] at hB
  cases e1 : impl_foldStrip.f 400 s with
  | none => rw [e1] at hB; simp at hB
  | some a =>
    cases e2 : spec_l03Stack.f 400 s with
    | none => rw [e1, e2] at h; simp at h
    | some b =>
      rw [e1, e2] at h
      rw [e1] at hB hC
      simp only [Bool.and_eq_true, beq_iff_eq, decide_eq_true_eq] at h hB
      obtain ⟨⟨h1, h2⟩, h3⟩ := h
      simp only at hC
      cases e3 : impl_CountFaces.l0 100 a.1 0 a.1 (a.1.length : Int) 0 with
      | none => rw [e3] at hC; simp at hC
      | some x =>
        rw [e3] at hC
        simp only [Bool.and_eq_true, Bool.or_eq_true, beq_iff_eq, decide_eq_true_eq] at hC
        obtain ⟨⟨q1, q2, q3, q4⟩, q5⟩ := hC
        refine ⟨a.1, a.2, Ev.of (impl_foldStrip.mono _) e1, ?_, h2, h3, Ev.of (impl_isStack.mono _) hB, x.1, x.2.1, ?_, q2, q3, q4, q5⟩
        · rw [h1]; exact Ev.of (spec_l03Stack.mono _) e2
        · have : x = (x.1, x.2.1, 0) := by rw [← q1]
          rw [← this]
          exact Ev.of (fun k => impl_CountFaces.mono_l k _ _ _ _ _) e3
theorem pow_inj {a b : Nat} (h : 2 ^ a = 2 ^ b) : a = b := by
  rcases Nat.lt_trichotomy a b with g | g | g
  · have := Nat.pow_lt_pow_right (a := 2) (by omega) g; omega
  · exact g
  · have := Nat.pow_lt_pow_right (a := 2) (by omega) g; omega
theorem strip_inj {s e : ByteArray} {l : List Int} {c1 c2 : ByteArray} (hs : isF s = true) (he : isF e = true) (h1 : Ev (fun k => impl_foldStrip.f k s) (l, c1)) (h2 : Ev (fun k => impl_foldStrip.f k e) (l, c2)) : e = s := by
  obtain ⟨st, cr, a1, _, a3, a4, _⟩ := fs_all hs
  obtain ⟨st', cr', b1, _, b3, b4, _⟩ := fs_all he
  have u1 := ev_unique a1 h1
  have u2 := ev_unique b1 h2
  injection u1 with u1 _
  injection u2 with u2 _
  subst u1 u2
  have hz : e.size = s.size := pow_inj (by rw [← a3, ← b3])
  rw [hz, a4] at b4
  rw [(isF_list hs).1, (isF_list he).1, b4]
theorem drawList_ok {c : List Int} {a s : Int} (h0 : Src c a s) : ∃ x a' s', Ev (fun k => spec_l03DrawList.f k c a s) (x, a', s') ∧ Src c a' s' ∧ x.length ≤ 64 := by
  obtain ⟨t, a1, s1, e1, h1, ht⟩ := drawFolds_ok h0
  have join : ∀ x : List Int, 1 ≤ x.length → x.length ≤ 64 → ∃ y a' s', Ev (fun k => spec_l03DrawList.j0 k x c a1 s1) (y, a', s') ∧ Src c a' s' ∧ y.length ≤ 64 := by
    intro x x1 x2
    obtain ⟨r, a2, s2, e2, h2, r0, r1⟩ := next_ok h1 (x.length : Int) (by omega)
    have r2 := r1 (by omega)
    obtain ⟨m, a3, s3, e3, h3, m0, _⟩ := next_ok h2 12 (by omega)
    by_cases c0 : m = 0
    · exact ⟨_, a3, s3, Ev.step (f := fun _ => some (x.set r.toNat (wrap64 (-(rd x r))), a3, s3)) (fun k => by rw [spec_l03DrawList.j0, e2]; simp only [Option.bind_some]; rw [e3]; simp only [Option.bind_some]; rw [if_pos c0, if_pos r0, if_pos r2]) (Ev.now _), h3, by rw [List.length_set]; exact x2⟩
    by_cases c1 : m = 1
    · obtain ⟨j, a4, s4, e4, h4, j0, j1⟩ := next_ok h3 (x.length : Int) (by omega)
      have j2 := j1 (by omega)
      exact ⟨_, a4, s4, Ev.step (f := fun _ => some ((x.set r.toNat (rd x j)).set j.toNat (rd x r), a4, s4)) (fun k => by rw [spec_l03DrawList.j0, e2]; simp only [Option.bind_some]; rw [e3]; simp only [Option.bind_some]; rw [if_neg c0, if_pos c1, e4]; simp only [Option.bind_some]; rw [if_pos r0, if_pos r2, if_pos j0, if_pos j2]) (Ev.now _), h4, by rw [List.length_set, List.length_set]; exact x2⟩
    by_cases c2 : m = 2
    · obtain ⟨v, a4, s4, e4, h4, _⟩ := pick_ok h3 ([0, 65, (-65), rd x 0, wrap64 ((x.length : Int) + 1)] : List Int) (by simp) (by simp)
      exact ⟨_, a4, s4, Ev.step (f := fun _ => some (x.set r.toNat v, a4, s4)) (fun k => by rw [spec_l03DrawList.j0, e2]; simp only [Option.bind_some]; rw [e3]; simp only [Option.bind_some]; rw [if_neg c0, if_neg c1, if_pos c2, if_pos (by omega), e4]; simp only [Option.bind_some]; rw [if_pos r0, if_pos r2]) (Ev.now _), h4, by rw [List.length_set]; exact x2⟩
    by_cases c3 : m = 3
    · exact ⟨_, a3, s3, Ev.step (f := fun _ => some (x.take r.toNat, a3, s3)) (fun k => by rw [spec_l03DrawList.j0, e2]; simp only [Option.bind_some]; rw [e3]; simp only [Option.bind_some]; rw [if_neg c0, if_neg c1, if_neg c2, if_pos c3, if_pos r0, if_pos (by omega)]) (Ev.now _), h3, by rw [List.length_take]; omega⟩
    · exact ⟨x, a3, s3, Ev.step (f := fun _ => some (x, a3, s3)) (fun k => by rw [spec_l03DrawList.j0, e2]; simp only [Option.bind_some]; rw [e3]; simp only [Option.bind_some]; rw [if_neg c0, if_neg c1, if_neg c2, if_neg c3]) (Ev.now _), h3, x2⟩
  by_cases hf : isF t = true
  · obtain ⟨st, cr, g1, g2, g3, _⟩ := fs_all hf
    have hp : 1 ≤ 2 ^ t.size := Nat.one_le_two_pow
    have hp2 : 2 ^ t.size ≤ 2 ^ 6 := Nat.pow_le_pow_right (by omega) (by have := (isF_list hf).2.1; have : t.size = t.data.toList.length := by simp
                                                                         omega)
    obtain ⟨y, a2, s2, e2, h2, h3⟩ := join st (by omega) (by omega)
    refine ⟨y, a2, s2, ?_, h2, h3⟩
    unfold spec_l03DrawList.f
    exact Ev.bind e1 (Ev.bind (specIsFolds_ev t (by omega)) (Ev_ite_t hf (Ev.bind g2 e2)))
  · obtain ⟨y, a2, s2, e2, h2, h3⟩ := join [1] (by simp) (by simp)
    refine ⟨y, a2, s2, ?_, h2, h3⟩
    unfold spec_l03DrawList.f
    exact Ev.bind e1 (Ev.bind (specIsFolds_ev t (by omega)) (Ev_ite_f hf e2))
theorem likeInts_ev (l : List Int) (hl : l.length ≤ 35184372088832) : Ev (fun k => laws_likeInts.f k l l) true := by
  have loop : ∀ (d i : Nat), i + d = l.length → Ev (fun k => laws_likeInts.l0 k l l (i : Int)) true := by
    intro d
    induction d with
    | zero =>
      intro i hi
      refine Ev.step (f := fun _ => some true) (fun k => by rw [laws_likeInts.l0, if_neg (by omega)]) (Ev.now _)
    | succ d ih =>
      intro i hi
      refine Ev.step (f := fun k => laws_likeInts.l0 k l l ((i + 1 : Nat) : Int)) (fun k => by rw [laws_likeInts.l0, if_pos (by omega), if_pos (by omega), if_pos (by omega), if_pos rfl, w64n i (by omega)]) ?_
      exact ih (i + 1) (by omega)
  refine Ev.congr (f := fun k => laws_likeInts.l0 k l l ((0 : Nat) : Int)) (fun k => ?_) (loop l.length 0 (by omega))
  simp only [laws_likeInts.f, if_true]
  rfl
theorem foldStrip_impl_ev {s : ByteArray} {st : List Int} {cr : ByteArray} (hf : isF s = true) (h : Ev (fun k => impl_foldStrip.f k s) (st, cr)) : Ev (fun k => impl_FoldStrip.f k s) (st, 0) := by
  unfold impl_FoldStrip.f
  rw [implIsFolds_eq]
  simp only [Option.bind_some, if_pos hf]
  exact Ev.bind h (Ev.now _)
theorem find_hit (l : List Int) (K : Nat) (hK : K ≤ 6) (hl : l.length = 2 ^ K) : ∀ (x L : List UInt8), L.length + x.length = K → (∀ c ∈ L ++ x, c = 76 ∨ c = 82) → (∃ cr, Ev (fun k => impl_foldStrip.f k (mkb (L ++ x))) (l, cr)) → ∃ e, Ev (fun k => af_go (ff_p k l) x.length (mkb L)) (true, e) := by
  have h64 : l.length ≤ 64 := by
    rw [hl]; exact Nat.pow_le_pow_right (n := 2) (by omega) hK
  intro x
  induction x with
  | nil =>
    intro L hL hc he
    rw [List.append_nil] at hc he
    rw [List.length_nil] at hL
    obtain ⟨cr, he⟩ := he
    obtain ⟨b, b1, b2, b3⟩ := same_two l l (by omega) (by omega)
    refine ⟨mkb L, ?_⟩
    show Ev (fun k => (ff_p k l (mkb L)).bind fun b => some (b, mkb L)) (true, mkb L)
    refine Ev.bind (a := true) ?_ (Ev.now _)
    unfold ff_p
    refine Ev.bind he ?_
    rw [← b3.2 rfl]
    exact b2
  | cons c t ih =>
    intro L hL hc he
    rw [List.length_cons] at hL
    have hz : L.length ≤ 5 := by omega
    have hcL : ∀ a ∈ L, a = 76 ∨ a = 82 := fun a ha => hc a (List.mem_append.2 (.inl ha))
    have hFL : isF (mkb L) = true := isF_mkb (by omega) hcL
    have hap : ∀ d : UInt8, mkb L ++ (⟨#[d]⟩ : ByteArray) = mkb (L ++ [d]) := fun d => mkb_append L [d]
    have hs : L ++ c :: t = (L ++ [c]) ++ t := by simp
    rw [hs] at hc he
    have hi := ih (L ++ [c]) (by rw [List.length_append, List.length_singleton]; omega) hc he
    rw [← hap c] at hi
    have hgo : ∀ r, Ev (fun k => (af_go (ff_p k l) t.length (mkb L ++ (⟨#[76]⟩ : ByteArray))).bind fun r => if r.1 = true then some (true, r.2) else af_go (ff_p k l) t.length (mkb L ++ (⟨#[82]⟩ : ByteArray))) r → Ev (fun k => af_go (ff_p k l) (c :: t).length (mkb L)) r := fun r hr => hr
    rcases hc c (by simp) with rfl | rfl
    · obtain ⟨e, h1⟩ := hi
      exact ⟨e, hgo _ (Ev.bind h1 (Ev_ite_t rfl (Ev.now _)))⟩
    · obtain ⟨bL, eL, _, l2, _⟩ := find_pow l K hK hl t.length (mkb L ++ (⟨#[76]⟩ : ByteArray)) (isF_app hFL (by rw [mkb_size]; omega) 76 (.inl rfl)) (by rw [app_size, mkb_size]; omega)
      cases bL with
      | true => exact ⟨eL, hgo _ (Ev.bind l2 (Ev_ite_t rfl (Ev.now _)))⟩
      | false =>
        obtain ⟨e, h1⟩ := hi
        exact ⟨e, hgo _ (Ev.bind l2 (Ev_ite_f (by simp) h1))⟩
theorem ffk_pow : ∀ n : Fin 7, ff_k (2 ^ n.val) = n.val := by decide +kernel
theorem find_back {s : ByteArray} {st : List Int} {cr : ByteArray} (hf : isF s = true) (h : Ev (fun k => impl_foldStrip.f k s) (st, cr)) : Ev (fun k => impl_FindFolds.f k st) (s, 0) := by
  obtain ⟨st', cr', a1, _, a3, _, a5, _⟩ := fs_all hf
  have u := ev_unique a1 h
  injection u with u1 u2
  subst u1 u2
  obtain ⟨i1, i2, i3⟩ := isF_list hf
  have hz : s.size = s.data.toList.length := by simp
  have hk : ff_k st'.length = s.size := by rw [a3]; exact ffk_pow ⟨s.size, by omega⟩
  have h64 : st'.length ≤ 64 := by
    rw [a3]; exact Nat.pow_le_pow_right (n := 2) (j := 6) (by omega) (by omega)
  obtain ⟨e, g1⟩ := find_hit st' s.size (by omega) a3 s.data.toList [] (by simp) (by simpa using i3) ⟨cr', by rw [List.nil_append, ← i1]; exact a1⟩
  obtain ⟨b, e', _, g2, g3⟩ := find_pow st' s.size (by omega) a3 s.data.toList.length (mkb []) isF_nil (by rw [mkb_size]; simp)
  have u := ev_unique g2 g1
  injection u with u1 u2
  subst u1 u2
  obtain ⟨f1, f2, cr2, f3⟩ := g3 rfl
  have he : e' = s := strip_inj hf f1 a1 f3
  subst he
  unfold impl_FindFolds.f
  refine Ev.bind a5 (Ev_ite_t rfl (Ev_ite_t h64 (Ev_ite_t (by rw [hk, a3]) ?_)))
  rw [hk, hz]
  exact Ev.bind g1 (Ev_ite_t rfl (Ev.now _))
theorem place_at (p : Int → Bool) : ∀ (l : List Int) (i : Int) (j : Nat), j < l.length → p (rd l (j : Int)) = true → (∀ t : Nat, t < j → p (rd l (t : Int)) = false) → place_idx p l i = i + j
  | [], i, j, h, _, _ => by simp at h
  | x :: t, i, 0, h, hp, _ => by
    have : rd (x :: t) ((0 : Nat) : Int) = x := rfl
    rw [this] at hp
    rw [place_idx, if_pos hp]; omega
  | x :: t, i, j + 1, h, hp, hq => by
    have h0 := hq 0 (by omega)
    have : rd (x :: t) ((0 : Nat) : Int) = x := rfl
    rw [this] at h0
    have hs : ∀ n : Nat, rd (x :: t) ((n + 1 : Nat) : Int) = rd t (n : Int) := fun n => by simp [rd]
    rw [place_idx, if_neg (by rw [h0]; simp), place_at p t (i + 1) j (by simpa using h) (by rw [← hs]; exact hp) (fun n hn => by rw [← hs]; exact hq (n + 1) (by omega))]
    omega
theorem rd_map_plc (l : List Int) (j : Nat) (h : j < l.length) : rd (l.map plc) (j : Int) = plc (rd l (j : Int)) := by
  rw [rd_get (by rw [List.length_map]; exact h), rd_get h, List.getElem_map]
theorem place_back {s : ByteArray} {st : List Int} {cr : ByteArray} (hf : isF s = true) (h : Ev (fun k => impl_foldStrip.f k s) (st, cr)) (j : Nat) (hj : j < st.length) : Ev (fun k => impl_PlaceOf.f k s (wrap64 ((mx (rd st (j : Int)) (wrap64 (-(rd st (j : Int))))) - 1))) ((j : Int), 0) := by
  obtain ⟨st', cr', a1, _, a3, _, a5, _⟩ := fs_all hf
  have u := ev_unique a1 h
  injection u with u1 u2
  subst u1 u2
  have hz : s.size = s.data.toList.length := by simp
  have h6 := (isF_list hf).2.1
  have h64 : st'.length ≤ 64 := by
    rw [a3]; exact Nat.pow_le_pow_right (n := 2) (j := 6) (by omega) (by omega)
  obtain ⟨b, _, b2, b3⟩ := stack_both st' (by omega)
  have hb : b = true := ev_unique b2 a5
  obtain ⟨c1, _, c3⟩ := b3 hb
  obtain ⟨_, ho⟩ := isOrd_iff.1 c3
  have hj' := ho j (Nat.zero_le _) (by rw [List.length_map]; exact hj)
  rw [rd_map_plc _ _ hj, List.length_map] at hj'
  obtain ⟨p0, p1, p2⟩ := hj'
  have hb1 : ∀ t : Nat, t < st'.length → (1 ≤ mx (rd st' (t : Int)) (-(rd st' (t : Int))) ∧ -64 ≤ rd st' (t : Int) ∧ rd st' (t : Int) ≤ 64) ∧ mx (rd st' (t : Int)) (-(rd st' (t : Int))) ≤ 64 := by
    intro t ht
    have r := c1 _ (rd_mem ht)
    have q := (ho t (Nat.zero_le _) (by rw [List.length_map]; exact ht)).1
    rw [rd_map_plc _ _ ht] at q
    unfold plc at q
    rw [neg64 r.1 r.2] at q
    have hm : -64 ≤ mx (rd st' (t : Int)) (-(rd st' (t : Int))) ∧ mx (rd st' (t : Int)) (-(rd st' (t : Int))) ≤ 64 := by unfold mx; split <;> omega
    rw [w64 (by omega) (by omega)] at q
    exact ⟨⟨by omega, r.1, r.2⟩, hm.2⟩
  show Ev (fun k => impl_PlaceOf.f k s (plc (rd st' (j : Int)))) ((j : Int), 0)
  obtain ⟨v, _, v2, v3⟩ := specPlace_ev s (plc (rd st' (j : Int))) (by omega) (by omega) (by omega)
  obtain ⟨st2, cr2, w1, w2⟩ := v3 hf p0 (by rw [← hz, ← a3]; exact p1)
  have u := ev_unique w1 a1
  injection u with u1 u2
  subst u1 u2
  have ht : ∀ t : Nat, t < st2.length → (place_is (plc (rd st2 (j : Int))) (rd st2 (t : Int)) = true ↔ plc (rd st2 (t : Int)) = plc (rd st2 (j : Int))) := fun t ht => place_test (hb1 t ht).1 (hb1 t ht).2 (by omega) (by omega)
  have hpl := place_at (place_is (plc (rd st2 (j : Int)))) st2 0 j hj ((ht j hj).2 rfl) (fun t hlt => by
    rw [Bool.eq_false_iff]
    intro z
    have z2 := (ht t (by omega)).1 z
    have := p2 t hlt
    rw [rd_map_plc _ _ (by omega)] at this
    exact this z2)
  rw [w2, hpl, Int.zero_add] at v2
  exact v2
theorem dp_fin : ∀ n : Fin 8, 1 ≤ wrap64 (2 ^ (mn 7 ((n.val : Nat) : Int)).toNat) ∧ wrap64 (2 ^ (mn 7 ((n.val : Nat) : Int)).toNat) ≤ 128 := by decide +kernel
theorem drawPlace_ok (c : List Int) (hc : c.length ≤ 4096) (hb : ∀ x ∈ c, 0 ≤ x ∧ x ≤ 255) : ∃ (t : ByteArray) (v : Int), Ev (fun k => spec_DrawPlaceOf.f k c) (t, v) ∧ t.size ≤ 7 ∧ -1000 ≤ v ∧ v ≤ 1000 := by
  obtain ⟨a, s, hf, h0⟩ := from_ok c hc hb
  obtain ⟨t, a1, s1, h1, h2, h3⟩ := drawFolds_ok h0
  obtain ⟨d1, d2⟩ := dp_fin ⟨t.size, by omega⟩
  simp only at d1 d2
  obtain ⟨m, a2, s2, e2, g2, _⟩ := next_ok h2 16 (by omega)
  unfold spec_DrawPlaceOf.f
  generalize wrap64 (2 ^ (mn 7 (t.size : Int)).toNat) = N at d1 d2
  by_cases hm : m = 0
  · obtain ⟨v, a3, s3, e3, g3, m3⟩ := pick_ok g2 ([(-1), wrap64 (2 ^ (mn 7 (t.size : Int)).toNat), wrap64 (-(wrap64 (2 ^ (mn 7 (t.size : Int)).toNat)))] : List Int) (by simp) (by simp)
    refine ⟨t, v, Ev.bind hf (Ev.bind h1 ?_), h3, ?_⟩
    · simp only [e2, Option.bind_some, if_pos hm, e3]
      exact Ev.now _
    · obtain ⟨q1, q2⟩ := dp_fin ⟨t.size, by omega⟩
      simp only at q1 q2
      generalize wrap64 (2 ^ (mn 7 (t.size : Int)).toNat) = N at q1 q2 m3
      rw [w64 (x := -N) (by omega) (by omega)] at m3
      simp at m3
      omega
  · obtain ⟨q1, q2⟩ := dp_fin ⟨t.size, by omega⟩
    simp only at q1 q2
    obtain ⟨v, a3, s3, e3, g3, r0, r1⟩ := next_ok g2 (wrap64 (2 ^ (mn 7 (t.size : Int)).toNat)) (by omega)
    refine ⟨t, v, Ev.bind hf (Ev.bind h1 ?_), h3, ?_⟩
    · simp only [e2, Option.bind_some, if_neg hm, e3]
      exact Ev.now _
    · have := r1 (by omega)
      omega
theorem FnStrips : laws_FnStrips.Pure := by
  intro c hc1 hc2 hw
  apply Ev.rounds
  unfold laws_FnStrips.f laws_big.f
  simp only [Option.bind_some, decide_eq_true_eq]
  by_cases hb : (c.length : Int) > 4096
  · exact Ev_ite_t hb (Ev.now _)
  · refine Ev_ite_f hb ?_
    have hbytes : ∀ x ∈ c, 0 ≤ x ∧ x ≤ 255 := fun x hx => wf8 (hw x hx)
    obtain ⟨a, s, hf, h0⟩ := from_ok c (by omega) hbytes
    obtain ⟨t, a', s', h1, h2, h3⟩ := drawFolds_ok h0
    have hd : Ev (fun k => spec_DrawFoldStrip.f k c) t := by
      unfold spec_DrawFoldStrip.f
      exact Ev.bind hf (Ev.bind h1 (Ev.now _))
    obtain ⟨x, a2, s2, y1, _, y3⟩ := drawList_ok h0
    have hd2 : Ev (fun k => spec_DrawFindFolds.f k c) x := by
      unfold spec_DrawFindFolds.f
      exact Ev.bind hf (Ev.bind y1 (Ev.now _))
    obtain ⟨p, v, z1, z2, z3, z4⟩ := drawPlace_ok c (by omega) hbytes
    obtain ⟨fs, fs1, fs2, fs3, fs4⟩ := fold_two t (by omega)
    obtain ⟨ff, ff1, ff2, ff3⟩ := findFolds_two x (by omega)
    obtain ⟨pl, pl1, pl2, _⟩ := specPlace_ev p v (by omega) (by omega) (by omega)
    obtain ⟨cf, cf1, cf2⟩ := cf_two t (by omega)
    refine Ev.bind hd (Ev.bind fs1 (Ev.bind fs2 (Ev.bind hd2 (Ev.bind ff2 (Ev.bind ff1 (Ev.bind z1 (Ev.bind pl2 (Ev.bind pl1 (Ev.bind cf1 (Ev.bind cf2 (Ev_ite_t rfl (Ev.bind (likeInts_ev fs.1 (by omega)) (Ev_ite_t rfl (Ev_ite_t rfl (Ev_ite_t rfl (Ev_ite_t rfl (Ev_ite_t rfl (Ev_ite_t rfl (Ev_ite_t rfl (Ev_ite_t rfl ?_))))))))))))))))))))
    rw [implIsFolds_eq]
    simp only [Option.bind_some]
    refine Ev.bind (specIsFolds_ev t (by omega)) ?_
    have hj1 : Ev (fun k => laws_FnStrips.j1 k t fs.1 fs.2 cf.1 cf.2.1) true := by
      by_cases hF : isF t = true
      · have q := fs4.1 hF
        obtain ⟨st, cr, a1, _, a3, _, _, u, d, a6, a7, a8, a9, a10⟩ := fs_all hF
        have e1 : fs = (st, 0) := ev_unique fs1 (foldStrip_impl_ev hF a1)
        have hc : Ev (fun k => impl_CountFaces.f k t) (u, d, 0) := by
          unfold impl_CountFaces.f
          rw [implIsFolds_eq]
          simp only [Option.bind_some, if_pos hF]
          exact Ev.bind a1 a6
        have e2 : cf = (u, d, 0) := ev_unique cf1 hc
        subst e1 e2
        have hz : t.size = t.data.toList.length := by simp
        have h6 := (isF_list hF).2.1
        have h64 : st.length ≤ 64 := fs3
        refine Ev.step (fun k => by rw [laws_FnStrips.j1, if_pos rfl]) (Ev.bind (find_back hF a1) ?_)
        have loop : ∀ (d' i : Nat), i + d' = st.length → Ev (fun k => laws_FnStrips.l0 k t st u d t 0 (i : Int)) true := by
          intro d'
          induction d' with
          | zero =>
            intro i hi
            by_cases hn : t.toList = ([] : List UInt8)
            · refine Ev.step (f := fun _ => some true) (fun k => ?_) (Ev.now _)
              rw [laws_FnStrips.l0, if_neg (by omega), if_pos rfl, if_pos rfl, if_pos (by rw [w64 (by omega) (by omega), a7, a3]), if_pos hn]
            · refine Ev.step (f := fun _ => some (u == d)) (fun k => ?_) ?_
              · rw [laws_FnStrips.l0, if_neg (by omega), if_pos rfl, if_pos rfl, if_pos (by rw [w64 (by omega) (by omega), a7, a3]), if_neg hn]
              · rcases a10 with z | z
                · exact (hn (by rw [ByteArray.toList_eq]; exact z)).elim
                · rw [z, beq_self_eq_true]; exact Ev.now _
          | succ d' ih =>
            intro i hi
            refine Ev.step (fun k => by rw [laws_FnStrips.l0, if_pos (by omega), if_pos (by omega)]) (Ev.bind (place_back hF a1 i (by omega)) (Ev_ite_t rfl (Ev_ite_t rfl ?_)))
            rw [w64n i (by omega)]
            exact ih (i + 1) (by omega)
        exact loop st.length 0 (by omega)
      · have q : ¬ fs.2 = 0 := fun z => hF (fs4.2 z)
        exact Ev.step (f := fun _ => some true) (fun k => by rw [laws_FnStrips.j1, if_neg q]) (Ev.now _)
    by_cases h0 : ff.2 = 0
    · obtain ⟨g1, cr, g2⟩ := ff3 h0
      refine Ev.step (fun k => by rw [laws_FnStrips.j0, if_neg (by simp), if_pos h0]) ?_
      exact Ev.bind (foldStrip_impl_ev g1 g2) (Ev_ite_t rfl (Ev.bind (likeInts_ev x (by omega)) (Ev_ite_t rfl hj1)))
    · exact Ev.step (fun k => by rw [laws_FnStrips.j0, if_neg (by simp), if_neg h0]) hj1

end Go.Proofs.YtdpmpoakjhhaaaaDoor.Pure
