/- The pure statement of FnOrders: for every input that the row lets in, the law's Lean function answers true; no further condition. -/
import Derived.Test.YtlenplkbfapjnaaQFnOrdersx5
set_option linter.unusedVariables false
set_option linter.unusedSimpArgs false
namespace Go.Proofs.Ytlenplkbfapjnaa.Pure
open Go.RowKit Go.Proofs.Ytlenplkbfapjnaa.QFnOrders Go.Proofs.YtlenplkbfapjnaaW.PrintWords Go.Proofs.YtlenplkbfapjnaaW.PrintLast

theorem w64 {x : Int} (h0 : -9223372036854775808 ≤ x) (h1 : x ≤ 9223372036854775807) : wrap64 x = x := by unfold wrap64; omega
theorem wz : wrap64 0 = 0 := w64 (by omega) (by omega)
theorem w64_range (x : Int) : -9223372036854775808 ≤ wrap64 x ∧ wrap64 x ≤ 9223372036854775807 := by unfold wrap64; omega
theorem wf64 {x : Int} (h : (Lit.int .i64 x).wf = true) : -9223372036854775808 ≤ x ∧ x ≤ 9223372036854775807 := by
  have h' : (decide (IntKind.i64.min ≤ x) && decide (x ≤ IntKind.i64.max)) = true := h
  simp only [Bool.and_eq_true, decide_eq_true_eq] at h'
  exact h'
theorem wf8 {x : Int} (h : (Lit.int .u8 x).wf = true) : 0 ≤ x ∧ x ≤ 255 := by
  have h' : (decide (IntKind.u8.min ≤ x) && decide (x ≤ IntKind.u8.max)) = true := h
  simp only [Bool.and_eq_true, decide_eq_true_eq] at h'
  exact h'
theorem rd_get {xs : List Int} {i : Nat} (h : i < xs.length) : rd xs (i : Int) = xs[i] := by
  simp [rd, List.getD_eq_getElem?_getD, h]
theorem rd_nat (xs : List Int) (i : Nat) : rd xs (i : Int) = xs.getD i 0 := by simp [rd]
theorem rd_mem {xs : List Int} {i : Nat} (h : i < xs.length) : rd xs (i : Int) ∈ xs := by rw [rd_get h]; exact List.getElem_mem h
theorem rd_ext {xs ys : List Int} (hl : xs.length = ys.length) (h : ∀ i : Nat, i < xs.length → rd xs (i : Int) = rd ys (i : Int)) : xs = ys := by
  apply List.ext_getElem hl
  intro i h1 h2
  have := h i h1
  rwa [rd_get h1, rd_get h2] at this
theorem rd_set {xs : List Int} {i j : Nat} {v : Int} (hi : i < xs.length) : rd (xs.set i v) (j : Int) = if i = j then v else rd xs (j : Int) := by
  simp only [rd_nat, List.getD_eq_getElem?_getD, List.getElem?_set]
  by_cases h : i = j
  · subst h; simp [hi]
  · simp [h]
theorem rd_append_left {xs ys : List Int} {j : Nat} (h : j < xs.length) : rd (xs ++ ys) (j : Int) = rd xs (j : Int) := by
  simp only [rd_nat, List.getD_eq_getElem?_getD, List.getElem?_append_left h]
theorem rd_append_at {xs : List Int} {v : Int} : rd (xs ++ [v]) (xs.length : Int) = v := by
  simp [rd_nat, List.getD_eq_getElem?_getD]
theorem rd_take {xs : List Int} {i j : Nat} (h : j < i) : rd (xs.take i) (j : Int) = rd xs (j : Int) := by
  simp [rd_nat, List.getD_eq_getElem?_getD, List.getElem?_take, h]
theorem rd_drop {xs : List Int} {i j : Nat} : rd (xs.drop i) (j : Int) = rd xs ((i + j : Nat) : Int) := by
  simp only [rd_nat, List.getD_eq_getElem?_getD, List.getElem?_drop]
theorem toNat_cast (i : Nat) : ((i : Nat) : Int).toNat = i := Int.toNat_natCast i
theorem drop_cons {xs : List Int} {i : Nat} (h : i < xs.length) : xs.drop i = rd xs (i : Int) :: xs.drop (i + 1) := by
  rw [rd_get h]; exact List.drop_eq_getElem_cons h
theorem Ev_ite_t {α : Type} {c : Prop} [Decidable c] {f g : Nat → Option α} {r : α} (h : c) (k : Ev f r) : Ev (fun n => if c then f n else g n) r :=
  Ev.congr (fun _ => if_pos h) k
theorem Ev_ite_f {α : Type} {c : Prop} [Decidable c] {f g : Nat → Option α} {r : α} (h : ¬ c) (k : Ev g r) : Ev (fun n => if c then f n else g n) r :=
  Ev.congr (fun _ => if_neg h) k
theorem w64n (i : Nat) (h : i < 9223372036854775807) : wrap64 ((i : Int) + 1) = ((i + 1 : Nat) : Int) := by
  rw [w64 (by omega) (by omega)]; rfl
theorem wrap_add_wrap (a b : Int) : wrap64 (wrap64 a + b) = wrap64 (a + b) := by unfold wrap64; omega
theorem wrap_add_wrap' (a b : Int) : wrap64 (a + wrap64 b) = wrap64 (a + b) := by unfold wrap64; omega
theorem EvE_bind {α β : Type} {g : Nat → Option α} {f : Nat → α → Option β} {a : α} (h : Ev g a) (k : ∃ r, Ev (fun n => f n a) r) : ∃ r, Ev (fun n => (g n).bind (f n)) r := by
  obtain ⟨r, k⟩ := k
  exact ⟨r, Ev.bind h k⟩
theorem EvE_now {α : Type} (a : α) : ∃ r, Ev (fun _ : Nat => some a) r := ⟨a, Ev.now a⟩
theorem EvE_ite_t {α : Type} {c : Prop} [Decidable c] {f g : Nat → Option α} (h : c) (k : ∃ r, Ev f r) : ∃ r, Ev (fun n => if c then f n else g n) r := by
  obtain ⟨r, k⟩ := k
  exact ⟨r, Ev_ite_t h k⟩
theorem EvE_ite_f {α : Type} {c : Prop} [Decidable c] {f g : Nat → Option α} (h : ¬ c) (k : ∃ r, Ev g r) : ∃ r, Ev (fun n => if c then f n else g n) r := by
  obtain ⟨r, k⟩ := k
  exact ⟨r, Ev_ite_f h k⟩
theorem l01Has_ev (l : List Int) (x : Int) (hl : l.length ≤ 35184372088832) : Ev (fun k => spec_l01Has.f k l x) (decide (x ∈ l)) := by
  have loop : ∀ (d i : Nat), i + d = l.length → Ev (fun k => spec_l01Has.l0 k l x (i : Int)) (decide (x ∈ l.drop i)) := by
    intro d
    induction d with
    | zero =>
      intro i hi
      have e : decide (x ∈ l.drop i) = false := by rw [List.drop_of_length_le (by omega)]; simp
      rw [e]
      exact Ev.step (f := fun _ => some false) (fun k => by rw [spec_l01Has.l0, if_neg (by omega)]) (Ev.now _)
    | succ d ih =>
      intro i hi
      by_cases e : rd l (i : Int) = x
      · have e1 : decide (x ∈ l.drop i) = true := by rw [drop_cons (by omega)]; simp [e]
        rw [e1]
        exact Ev.step (f := fun _ => some true) (fun k => by rw [spec_l01Has.l0, if_pos (by omega), if_pos (by omega), if_pos e]) (Ev.now _)
      · have e1 : decide (x ∈ l.drop i) = decide (x ∈ l.drop (i + 1)) := by rw [drop_cons (by omega)]; simp [Ne.symm e]
        rw [e1]
        exact Ev.step (fun k => by rw [spec_l01Has.l0, if_pos (by omega), if_pos (by omega), if_neg e, w64n i (by omega)]) (ih (i + 1) (by omega))
  have := loop l.length 0 (by omega)
  rw [List.drop_zero] at this
  exact Ev.congr (fun k => rfl) this
theorem l01In_eq (n a b : Int) : spec_l01In.f n a b = some (decide (a ≤ n ∧ n ≤ b)) := by
  unfold spec_l01In.f
  by_cases h : n ≥ a
  · rw [if_pos h]; simp [show a ≤ n from h]
  · rw [if_neg h]; simp [show ¬ a ≤ n from h]
theorem inRange_eq (n a b : Int) : impl_inRange.f n a b = some (decide (a ≤ n ∧ n ≤ b)) := by
  unfold impl_inRange.f
  by_cases h : a ≤ n
  · rw [if_pos h]; simp [h]
  · rw [if_neg h]; simp [h]
def ordP (p : List Int) (i : Nat) : Prop := ∀ j : Nat, i ≤ j → j < p.length → 0 ≤ rd p (j : Int) ∧ rd p (j : Int) < p.length ∧ ∀ t : Nat, t < j → rd p (t : Int) ≠ rd p (j : Int)
theorem ordP_end {p : List Int} {i : Nat} (h : p.length ≤ i) : ordP p i := fun j hj hl => by omega
theorem ordP_succ {p : List Int} {i : Nat} (h : i < p.length) : ordP p i ↔ (0 ≤ rd p (i : Int) ∧ rd p (i : Int) < p.length ∧ ∀ t : Nat, t < i → rd p (t : Int) ≠ rd p (i : Int)) ∧ ordP p (i + 1) := by
  constructor
  · intro H
    exact ⟨H i (Nat.le_refl _) h, fun j hj hl => H j (by omega) hl⟩
  · rintro ⟨h1, h2⟩ j hj hl
    by_cases e : i = j
    · subst e; exact h1
    · exact h2 j (by omega) hl
noncomputable def isOrd (p : List Int) : Bool := @decide (p.length ≤ 64 ∧ ordP p 0) (Classical.propDecidable _)
theorem isOrd_iff {p : List Int} : isOrd p = true ↔ p.length ≤ 64 ∧ ordP p 0 := by unfold isOrd; exact @decide_eq_true_iff _ (Classical.propDecidable _)
theorem mem_take_iff (p : List Int) (i : Nat) (hi : i ≤ p.length) (x : Int) : x ∈ p.take i ↔ ∃ t : Nat, t < i ∧ rd p (t : Int) = x := by
  constructor
  · intro h
    obtain ⟨t, ht, e⟩ := List.mem_iff_getElem.1 h
    rw [List.length_take] at ht
    refine ⟨t, by omega, ?_⟩
    rw [rd_get (by omega), ← e, List.getElem_take]
  · rintro ⟨t, ht, e⟩
    rw [← e, ← rd_take ht]
    exact rd_mem (by rw [List.length_take]; omega)
theorem specIsOrder_ev (p : List Int) (hl : p.length ≤ 35184372088832) : Ev (fun k => spec_IsOrder.f k p) (isOrd p) := by
  have loop : ∀ (d i : Nat), i + d = p.length → ∀ b : Bool, (b = true ↔ p.length ≤ 64 ∧ ordP p i) → Ev (fun k => spec_IsOrder.l0 k p (i : Int)) b := by
    intro d
    induction d with
    | zero =>
      intro i hi b hb
      have e : b = decide ((p.length : Int) ≤ 64) := by
        rw [Bool.eq_iff_iff, hb, decide_eq_true_iff]
        constructor
        · rintro ⟨h, _⟩; omega
        · intro h; exact ⟨by omega, ordP_end (by omega)⟩
      rw [e]
      exact Ev.step (f := fun _ => some (decide ((p.length : Int) ≤ 64))) (fun k => by rw [spec_IsOrder.l0, if_neg (by omega)]) (Ev.now _)
    | succ d ih =>
      intro i hi b hb
      have hs := ordP_succ (p := p) (i := i) (by omega)
      refine Ev.step (f := fun k => (some (decide (0 ≤ rd p (i : Int) ∧ rd p (i : Int) ≤ (p.length : Int) - 1))).bind fun t => if t = true then (spec_l01Has.f k (p.take i) (rd p (i : Int))).bind fun t => if t = true then some false else spec_IsOrder.l0 k p ((i + 1 : Nat) : Int) else some false) (fun k => by
        rw [spec_IsOrder.l0, if_pos (by omega), if_pos (by omega), l01In_eq, w64 (x := (p.length : Int) - 1) (by omega) (by omega), w64n i (by omega), toNat_cast]
        simp only [Option.bind_some]
        rw [if_pos (show (i : Int) ≤ (p.length : Int) by omega)]) ?_
      simp only [Option.bind_some, decide_eq_true_eq]
      by_cases h1 : 0 ≤ rd p (i : Int) ∧ rd p (i : Int) ≤ (p.length : Int) - 1
      · refine Ev_ite_t h1 (Ev.bind (l01Has_ev (p.take i) (rd p (i : Int)) (by rw [List.length_take]; omega)) ?_)
        simp only [decide_eq_true_eq]
        by_cases h2 : rd p (i : Int) ∈ p.take i
        · obtain ⟨t, ht, e⟩ := (mem_take_iff p i (by omega) _).1 h2
          obtain rfl : b = false := by
            rw [Bool.eq_false_iff]; intro hbt
            exact (hs.1 (hb.1 hbt).2).1.2.2 t ht e
          exact Ev_ite_t h2 (Ev.now _)
        · refine Ev_ite_f h2 (ih (i + 1) (by omega) b ?_)
          rw [hb, hs]
          constructor
          · rintro ⟨a, _, c⟩; exact ⟨a, c⟩
          · rintro ⟨a, c⟩
            refine ⟨a, ⟨h1.1, by omega, fun t ht e => h2 ((mem_take_iff p i (by omega) _).2 ⟨t, ht, e⟩)⟩, c⟩
      · obtain rfl : b = false := by
          rw [Bool.eq_false_iff]; intro hbt
          have := (hs.1 (hb.1 hbt).2).1
          exact h1 ⟨this.1, by omega⟩
        exact Ev_ite_f h1 (Ev.now _)
  exact Ev.congr (fun k => rfl) (loop p.length 0 (by omega) _ isOrd_iff)
theorem rdOf_set {α : Type} {z : α} {xs : List α} {i j : Nat} {v : α} (hi : i < xs.length) : rdOf z (xs.set i v) (j : Int) = if i = j then v else rdOf z xs (j : Int) := by
  simp only [rdOf, toNat_cast, List.getD_eq_getElem?_getD, List.getElem?_set]
  by_cases h : i = j
  · subst h; simp [hi]
  · simp [h]
theorem implIsOrder_ev (p : List Int) (hl : p.length ≤ 35184372088832) : Ev (fun k => impl_IsOrder.f k p) (isOrd p) := by
  by_cases h64 : p.length ≤ 64
  · have loop : ∀ (d i : Nat), i + d = p.length → ∀ seen : List Bool, seen.length = p.length → (∀ v : Nat, v < p.length → (rdOf false seen (v : Int) = true ↔ ∃ t : Nat, t < i ∧ rd p (t : Int) = v)) →
        ∀ b : Bool, (b = true ↔ ordP p i) → Ev (fun k => impl_IsOrder.l0 k p seen p (p.length : Int) (i : Int)) b := by
      intro d
      induction d with
      | zero =>
        intro i hi seen _ _ b hb
        obtain rfl : b = true := hb.2 (ordP_end (by omega))
        exact Ev.step (f := fun _ => some true) (fun k => by rw [impl_IsOrder.l0, if_neg (by omega)]) (Ev.now _)
      | succ d ih =>
        intro i hi seen hsl hseen b hb
        have hs := ordP_succ (p := p) (i := i) (by omega)
        refine Ev.step (f := fun k => (some (decide (0 ≤ rd p (i : Int) ∧ rd p (i : Int) ≤ (p.length : Int) - 1))).bind fun t => if t = true then (if 0 ≤ rd p (i : Int) then (if rd p (i : Int) < (seen.length : Int) then (if rdOf false seen (rd p (i : Int)) = true then some false else impl_IsOrder.l0 k p (seen.set (rd p (i : Int)).toNat true) p (p.length : Int) ((i + 1 : Nat) : Int)) else none) else none) else some false) (fun k => by
          rw [impl_IsOrder.l0, if_pos (by omega), if_pos (by omega), if_pos (by omega), impl_length_int64.f]
          simp only [Option.bind_some]
          rw [inRange_eq, w64 (x := (p.length : Int) - 1) (by omega) (by omega), w64n i (by omega)]; rfl) ?_
        simp only [Option.bind_some, decide_eq_true_eq]
        by_cases h1 : 0 ≤ rd p (i : Int) ∧ rd p (i : Int) ≤ (p.length : Int) - 1
        · obtain ⟨v, hv⟩ := Int.eq_ofNat_of_zero_le h1.1
          refine Ev_ite_t h1 (Ev_ite_t h1.1 (Ev_ite_t (by omega) ?_))
          rw [hv, toNat_cast]
          rw [hv] at h1 hs
          have hsv := hseen v (by omega)
          by_cases h2 : rdOf false seen (v : Int) = true
          · obtain ⟨t, ht, e⟩ := hsv.1 h2
            obtain rfl : b = false := by
              rw [Bool.eq_false_iff]; intro hbt
              exact (hs.1 (hb.1 hbt)).1.2.2 t ht e
            exact Ev_ite_t h2 (Ev.now _)
          · refine Ev_ite_f h2 (ih (i + 1) (by omega) _ (by rw [List.length_set]; exact hsl) (fun u hu => ?_) b ?_)
            · rw [rdOf_set (by omega)]
              by_cases e : v = u
              · subst e
                simp only [if_true, true_iff]
                exact ⟨i, by omega, hv⟩
              · rw [if_neg e, hseen u hu]
                constructor
                · rintro ⟨t, ht, et⟩; exact ⟨t, by omega, et⟩
                · rintro ⟨t, ht, et⟩
                  by_cases e2 : t = i
                  · subst e2; rw [hv] at et; omega
                  · exact ⟨t, by omega, et⟩
            · rw [hb, hs]
              constructor
              · rintro ⟨_, c⟩; exact c
              · intro c
                refine ⟨⟨h1.1, by omega, fun t ht e => h2 (hsv.2 ⟨t, ht, e⟩)⟩, c⟩
        · obtain rfl : b = false := by
            rw [Bool.eq_false_iff]; intro hbt
            have := (hs.1 (hb.1 hbt)).1
            exact h1 ⟨this.1, by omega⟩
          exact Ev_ite_f h1 (Ev.now _)
    refine Ev.congr (fun k => ?_) (loop p.length 0 (by omega) (List.replicate p.length false) (by simp) (fun v hv => ?_) (isOrd p) (by rw [isOrd_iff]; exact ⟨fun h => h.2, fun h => ⟨h64, h⟩⟩))
    · simp only [impl_IsOrder.f, toNat_cast]
      rw [if_neg (by omega), if_pos (by omega), if_pos (by omega)]
      rfl
    · constructor
      · intro h; simp [rdOf, List.getD_eq_getElem?_getD, List.getElem?_replicate, hv] at h
      · rintro ⟨t, ht, _⟩; omega
  · obtain e : isOrd p = false := by
      rw [Bool.eq_false_iff]; intro h; exact h64 (isOrd_iff.1 h).1
    rw [e]
    refine Ev.congr (f := fun _ => some false) (fun k => ?_) (Ev.now _)
    simp only [impl_IsOrder.f]
    rw [if_pos (by omega)]
def comp (p q : List Int) : List Int := q.map fun n => rd p n
theorem comp_take (p q : List Int) (i : Nat) (h : i < q.length) : comp p (q.take (i + 1)) = comp p (q.take i) ++ [rd p (rd q (i : Int))] := by
  unfold comp
  rw [List.take_succ_eq_append_getElem h, List.map_append, rd_get h]
  rfl
theorem compose_both (p q : List Int) (hl : p.length ≤ 35184372088832) (hl2 : q.length ≤ 35184372088832) : ∃ r : List Int × Int, r.1.length ≤ q.length ∧ Ev (fun k => spec_ComposeOrders.f k p q) r ∧ Ev (fun k => impl_ComposeOrders.f k p q) r ∧
    ((isOrd p = true ∧ isOrd q = true ∧ p.length = q.length ∧ r = (comp p q, 0)) ∨ (¬ (isOrd p = true ∧ isOrd q = true ∧ p.length = q.length) ∧ (r = ([], 1) ∨ r = ([], 5)))) := by
  unfold spec_ComposeOrders.f impl_ComposeOrders.f
  by_cases h : isOrd p = true
  · by_cases h2 : isOrd q = true
    · have e : (!isOrd q) = false := by rw [h2]; rfl
      by_cases h3 : p.length = q.length
      · obtain ⟨h64, ho⟩ := isOrd_iff.1 h2
        have loop : ∀ (d i : Nat), i + d = q.length → Ev (fun k => spec_ComposeOrders.l0 k p q (comp p (q.take i)) (i : Int)) (comp p q, 0) ∧ Ev (fun k => impl_ComposeOrders.l0 k p (comp p (q.take i)) q (q.length : Int) (i : Int)) (comp p q, 0) := by
          intro d
          induction d with
          | zero =>
            intro i hi
            rw [List.take_of_length_le (by omega)]
            exact ⟨Ev.step (f := fun _ => some (comp p q, 0)) (fun k => by rw [spec_ComposeOrders.l0, if_neg (by omega)]) (Ev.now _), Ev.step (f := fun _ => some (comp p q, 0)) (fun k => by rw [impl_ComposeOrders.l0, if_neg (by omega)]) (Ev.now _)⟩
          | succ d ih =>
            intro i hi
            obtain ⟨a, b⟩ := ih (i + 1) (by omega)
            obtain ⟨o1, o2, o3⟩ := ho i (by omega) (by omega)
            have hlen : (comp p (q.take i)).length < 17592186044416 := by unfold comp; rw [List.length_map, List.length_take]; omega
            rw [comp_take p q i (by omega)] at a b
            refine ⟨Ev.step (fun k => ?_) a, Ev.step (fun k => ?_) b⟩
            · rw [spec_ComposeOrders.l0, if_pos (by omega), if_pos (by omega), if_pos (by omega), if_pos (by omega), if_pos hlen, w64n i (by omega)]
            · rw [impl_ComposeOrders.l0, if_pos (by omega), if_pos (by omega), if_pos (by omega), if_pos (by omega), if_pos (by omega), if_pos hlen, w64n i (by omega)]
        obtain ⟨a, b⟩ := loop q.length 0 (by omega)
        refine ⟨(comp p q, 0), by simp [comp], Ev.bind (specIsOrder_ev p hl) (Ev_ite_t h (Ev.bind (specIsOrder_ev q hl2) (Ev.step (fun k => ?_) a))), Ev.bind (implIsOrder_ev p hl) (Ev_ite_t h (Ev.bind (implIsOrder_ev q hl2) (Ev.step (fun k => ?_) b))), .inl ⟨h, h2, h3, rfl⟩⟩
        · rw [spec_ComposeOrders.j0, e, if_neg (by simp), if_pos (by omega)]; rfl
        · rw [impl_ComposeOrders.j0, e, if_neg (by simp), if_pos (by omega)]; rfl
      · refine ⟨([], 5), by simp, Ev.bind (specIsOrder_ev p hl) (Ev_ite_t h (Ev.bind (specIsOrder_ev q hl2) (Ev.step (f := fun _ => some ([], 5)) (fun k => ?_) (Ev.now _)))), Ev.bind (implIsOrder_ev p hl) (Ev_ite_t h (Ev.bind (implIsOrder_ev q hl2) (Ev.step (f := fun _ => some ([], 5)) (fun k => ?_) (Ev.now _)))), .inr ⟨fun x => h3 x.2.2, .inr rfl⟩⟩
        · rw [spec_ComposeOrders.j0, e, if_neg (by simp), if_neg (by omega)]
        · rw [impl_ComposeOrders.j0, e, if_neg (by simp), if_neg (by omega)]
    · have e : (!isOrd q) = true := by simp at h2; rw [h2]; rfl
      refine ⟨([], 1), by simp, Ev.bind (specIsOrder_ev p hl) (Ev_ite_t h (Ev.bind (specIsOrder_ev q hl2) (Ev.step (f := fun _ => some ([], 1)) (fun k => ?_) (Ev.now _)))), Ev.bind (implIsOrder_ev p hl) (Ev_ite_t h (Ev.bind (implIsOrder_ev q hl2) (Ev.step (f := fun _ => some ([], 1)) (fun k => ?_) (Ev.now _)))), .inr ⟨fun x => h2 x.2.1, .inl rfl⟩⟩
      · rw [spec_ComposeOrders.j0, e, if_pos rfl]
      · rw [impl_ComposeOrders.j0, e, if_pos rfl]
  · refine ⟨([], 1), by simp, Ev.bind (specIsOrder_ev p hl) (Ev_ite_f h (Ev.step (f := fun _ => some ([], 1)) (fun k => ?_) (Ev.now _))), Ev.bind (implIsOrder_ev p hl) (Ev_ite_f h (Ev.step (f := fun _ => some ([], 1)) (fun k => ?_) (Ev.now _))), .inr ⟨fun x => h x.1, .inl rfl⟩⟩
    · rw [spec_ComposeOrders.j0, if_pos rfl]
    · rw [impl_ComposeOrders.j0, if_pos rfl]
theorem inverse_both (p : List Int) (hp : isOrd p = true) :
    ∃ y : List Int, y.length = p.length ∧ (∀ j : Nat, j < p.length → rd y (rd p (j : Int)) = j) ∧ Ev (fun k => spec_l01Inverse.f k p) y ∧ Ev (fun k => impl_inverse.f k p) y := by
  obtain ⟨h64, ho⟩ := isOrd_iff.1 hp
  have loop : ∀ (d i : Nat), i + d = p.length → ∀ x : List Int, x.length = p.length → (∀ j : Nat, j < i → rd x (rd p (j : Int)) = j) →
      ∃ y : List Int, y.length = p.length ∧ (∀ j : Nat, j < p.length → rd y (rd p (j : Int)) = j) ∧ Ev (fun k => spec_l01Inverse.l0 k p x (i : Int)) y ∧ Ev (fun k => impl_inverse.l0 k x p (p.length : Int) (i : Int)) y := by
    intro d
    induction d with
    | zero =>
      intro i hi x hx h
      obtain rfl : i = p.length := by omega
      exact ⟨x, hx, h, Ev.step (f := fun _ => some x) (fun k => by rw [spec_l01Inverse.l0, if_neg (by omega)]) (Ev.now _), Ev.step (f := fun _ => some x) (fun k => by rw [impl_inverse.l0, if_neg (by omega)]) (Ev.now _)⟩
    | succ d ih =>
      intro i hi x hx h
      obtain ⟨o1, o2, o3⟩ := ho i (by omega) (by omega)
      obtain ⟨v, hv⟩ := Int.eq_ofNat_of_zero_le o1
      obtain ⟨y, y1, y2, y3, y4⟩ := ih (i + 1) (by omega) (x.set v (i : Int)) (by rw [List.length_set]; exact hx) (fun j hj => by
        obtain ⟨q1, q2, _⟩ := ho j (by omega) (by omega)
        obtain ⟨u, hu⟩ := Int.eq_ofNat_of_zero_le q1
        rw [hu, rd_set (by omega)]
        by_cases e : i = j
        · subst e
          rw [if_pos (by omega)]
        · have hne := o3 j (by omega)
          rw [if_neg (by omega), ← hu]
          exact h j (by omega))
      refine ⟨y, y1, y2, Ev.step (fun k => ?_) y3, Ev.step (fun k => ?_) y4⟩
      · rw [spec_l01Inverse.l0, if_pos (by omega), if_pos (by omega), if_pos (by omega), if_pos (by omega), w64n i (by omega), hv, toNat_cast]
      · rw [impl_inverse.l0, if_pos (by omega), if_pos (by omega), if_pos (by omega), if_pos (by omega), if_pos (by omega), w64n i (by omega), hv, toNat_cast]
  obtain ⟨y, y1, y2, y3, y4⟩ := loop p.length 0 (by omega) (List.replicate p.length 0) (by simp) (fun j hj => by omega)
  refine ⟨y, y1, y2, Ev.congr (fun k => ?_) y3, Ev.congr (fun k => ?_) y4⟩
  · simp only [spec_l01Inverse.f, toNat_cast]
    rw [if_pos (by omega), if_pos (by omega)]
    rfl
  · simp only [impl_inverse.f, toNat_cast]
    rw [if_pos (by omega), if_pos (by omega)]
    rfl
theorem inverseOrder_both (p : List Int) (hl : p.length ≤ 35184372088832) : ∃ r : List Int × Int, r.1.length ≤ p.length ∧ Ev (fun k => spec_InverseOrder.f k p) r ∧ Ev (fun k => impl_InverseOrder.f k p) r ∧
    ((isOrd p = true ∧ r.2 = 0 ∧ r.1.length = p.length ∧ ∀ j : Nat, j < p.length → rd r.1 (rd p (j : Int)) = j) ∨ (isOrd p = false ∧ r = ([], 1))) := by
  unfold spec_InverseOrder.f impl_InverseOrder.f
  by_cases h : isOrd p = true
  · obtain ⟨y, y1, y2, y3, y4⟩ := inverse_both p h
    exact ⟨(y, 0), by rw [y1]; exact Nat.le_refl _, Ev.bind (specIsOrder_ev p hl) (Ev_ite_t h (Ev.bind y3 (Ev.now _))), Ev.bind (implIsOrder_ev p hl) (Ev_ite_t h (Ev.bind y4 (Ev.now _))), .inl ⟨h, rfl, y1, y2⟩⟩
  · exact ⟨([], 1), by simp, Ev.bind (specIsOrder_ev p hl) (Ev_ite_f h (Ev.now _)), Ev.bind (implIsOrder_ev p hl) (Ev_ite_f h (Ev.now _)), .inr ⟨by simpa using h, rfl⟩⟩
def Src (c : List Int) (a s : Int) : Prop := c.length ≤ 4096 ∧ (∀ x ∈ c, 0 ≤ x ∧ x ≤ 255) ∧ 0 ≤ a ∧ a ≤ c.length ∧ 0 ≤ s ∧ s < 2147483647
theorem tmod_range {x m : Int} (h : 0 ≤ x) (hm : 0 < m) : 0 ≤ Int.tmod x m ∧ Int.tmod x m < m := ⟨Int.tmod_nonneg _ h, Int.tmod_lt_of_pos _ hm⟩
theorem rd_byte {c : List Int} (hc : ∀ x ∈ c, 0 ≤ x ∧ x ≤ 255) (i : Int) : 0 ≤ rd c i ∧ rd c i ≤ 255 := by
  unfold rd
  by_cases h : i.toNat < c.length
  · simp only [List.getD_eq_getElem?_getD, List.getElem?_eq_getElem h, Option.getD_some]
    exact hc _ (List.getElem_mem h)
  · simp only [List.getD_eq_getElem?_getD, List.getElem?_eq_none (Nat.le_of_not_lt h), Option.getD_none]
    omega
theorem next_ok {c : List Int} {a s : Int} (h : Src c a s) (n : Int) (hn : n ≤ 9000000000000000000) :
    ∃ r a' s', spec_l01Next.f c a s n = some (r, a', s') ∧ Src c a' s' ∧ 0 ≤ r ∧ (1 ≤ n → r < n) := by
  obtain ⟨h1, h2, h3, h4, h5, h6⟩ := h
  unfold spec_l01Next.f
  by_cases hn1 : n ≤ 1
  · rw [if_pos hn1]
    exact ⟨0, a, s, rfl, ⟨h1, h2, h3, h4, h5, h6⟩, by omega, by omega⟩
  · rw [if_neg hn1]
    have e1 : wrap64 (wrap64 (s * 48271) + 61) = s * 48271 + 61 := by rw [w64 (x := s * 48271) (by omega) (by omega), w64 (by omega) (by omega)]
    rw [e1]
    have m1 := tmod_range (x := s * 48271 + 61) (m := 2147483647) (by omega) (by omega)
    generalize Int.tmod (s * 48271 + 61) 2147483647 = s1 at *
    have d1 : 0 ≤ Int.tdiv s1 31 ∧ Int.tdiv s1 31 ≤ 2147483647 := by
      rw [Int.tdiv_eq_ediv_of_nonneg m1.1]; omega
    rw [w64 (x := Int.tdiv s1 31) (by omega) (by omega)]
    generalize Int.tdiv s1 31 = q at *
    by_cases ha : a < (c.length : Int)
    · have e2 : wrap64 (a + 1) = a + 1 := w64 (by omega) (by omega)
      have e3 : wrap64 (a + 1 - 1) = a := by rw [w64 (by omega) (by omega)]; omega
      have b1 := rd_byte h2 a
      rw [if_pos ha, if_pos h3, e2, e3, w64 (x := rd c a) (by omega) (by omega), w64 (x := q + rd c a) (by omega) (by omega)]
      have r1 := tmod_range (x := rd c a) (m := n) b1.1 (by omega)
      have r2 := tmod_range (x := q + rd c a) (m := n) (by omega) (by omega)
      have hs : Src c (a + 1) s1 := ⟨h1, h2, by omega, by omega, m1.1, m1.2⟩
      by_cases hb : n ≤ 256
      · rw [if_pos hb]
        by_cases hc : Int.tmod (a + 1) 2 = 0
        · rw [if_pos hc, if_pos h3, if_pos ha, if_neg (by omega)]
          exact ⟨_, _, _, rfl, hs, r1.1, fun _ => r1.2⟩
        · rw [if_neg hc, if_neg (by omega)]
          exact ⟨_, _, _, rfl, hs, r2.1, fun _ => r2.2⟩
      · rw [if_neg hb, if_neg (by omega)]
        exact ⟨_, _, _, rfl, hs, r2.1, fun _ => r2.2⟩
    · rw [if_neg ha, if_neg (by omega)]
      have r1 := tmod_range (x := q) (m := n) (by omega) (by omega)
      exact ⟨_, _, _, rfl, ⟨h1, h2, h3, h4, m1.1, m1.2⟩, r1.1, fun _ => r1.2⟩
theorem from_ok (c : List Int) (hc : c.length ≤ 4096) (hb : ∀ x ∈ c, 0 ≤ x ∧ x ≤ 255) : ∃ a s, Ev (fun k => spec_l01From.f k c) (c, a, s) ∧ Src c a s := by
  have loop : ∀ (d i : Nat), i + d = c.length → ∀ s : Int, 0 ≤ s → s < 2147483647 → ∃ s', 0 ≤ s' ∧ s' < 2147483647 ∧ Ev (fun k => spec_l01From.l0 k c (i : Int) c 0 s) (c, 0, s') := by
    intro d
    induction d with
    | zero =>
      intro i hi s h0 h1
      exact ⟨s, h0, h1, Ev.step (f := fun _ => some (c, 0, s)) (fun k => by rw [spec_l01From.l0, if_neg (by omega)]) (Ev.now _)⟩
    | succ d ih =>
      intro i hi s h0 h1
      by_cases h64 : i < 64
      · have b1 := rd_byte hb (i : Int)
        have e1 : wrap64 (wrap64 (s * 71) + wrap64 (rd c (i : Int))) = s * 71 + rd c (i : Int) := by
          rw [w64 (x := s * 71) (by omega) (by omega), w64 (x := rd c (i : Int)) (by omega) (by omega), w64 (by omega) (by omega)]
        have m1 := tmod_range (x := s * 71 + rd c (i : Int)) (m := 2147483647) (by omega) (by omega)
        obtain ⟨s', g0, g1, g2⟩ := ih (i + 1) (by omega) (Int.tmod (s * 71 + rd c (i : Int)) 2147483647) m1.1 m1.2
        refine ⟨s', g0, g1, Ev.step (fun k => ?_) g2⟩
        rw [spec_l01From.l0, if_pos (by omega), if_pos (by omega), if_pos (by omega), w64n i (by omega), e1]
      · exact ⟨s, h0, h1, Ev.step (f := fun _ => some (c, 0, s)) (fun k => by rw [spec_l01From.l0, if_pos (by omega), if_neg (by omega)]) (Ev.now _)⟩
  obtain ⟨s', g0, g1, g2⟩ := loop c.length 0 (by omega) 88007 (by omega) (by omega)
  exact ⟨0, s', Ev.congr (fun k => rfl) g2, hc, hb, by omega, by omega, g0, g1⟩
theorem pick_ok {c : List Int} {a s : Int} (h : Src c a s) (l : List Int) (h0 : 0 < l.length) (h1 : l.length ≤ 1000) :
    ∃ r a' s', spec_l01Pick.f c a s l = some (r, a', s') ∧ Src c a' s' ∧ r ∈ l := by
  obtain ⟨r, a', s', e, hs, h2, h3⟩ := next_ok h (l.length : Int) (by omega)
  have h4 := h3 (by omega)
  unfold spec_l01Pick.f
  rw [e]
  simp only [Option.bind_some]
  rw [if_pos h2, if_pos h4]
  refine ⟨_, _, _, rfl, hs, ?_⟩
  obtain ⟨m, rfl⟩ := Int.eq_ofNat_of_zero_le h2
  exact rd_mem (by omega)
theorem drawOf_ok {c : List Int} {a s : Int} (h0 : Src c a s) (n : Nat) (hn : n ≤ 1000) : ∃ l a' s', Ev (fun k => spec_l01DrawOf.f k c a s (n : Int)) (l, a', s') ∧ Src c a' s' ∧ l.length = n := by
  have loop : ∀ (d i : Nat), i + d = n → ∀ (l : List Int) (a s : Int), Src c a s → l.length = i → ∃ l' a' s', Ev (fun k => spec_l01DrawOf.l0 k (n : Int) l (i : Int) c a s) (l', a', s') ∧ Src c a' s' ∧ l'.length = n := by
    intro d
    induction d with
    | zero =>
      intro i hi l a s hs hl
      exact ⟨l, a, s, Ev.step (f := fun _ => some (l, a, s)) (fun k => by rw [spec_l01DrawOf.l0, if_neg (by omega)]) (Ev.now _), hs, by omega⟩
    | succ d ih =>
      intro i hi l a s hs hl
      obtain ⟨r, a1, s1, e1, h1, p1, q1⟩ := next_ok hs ((i + 1 : Nat) : Int) (by omega)
      have q1' := q1 (by omega)
      obtain ⟨m, rfl⟩ := Int.eq_ofNat_of_zero_le p1
      have hm : m ≤ l.length := by omega
      have hlen : (l.take m ++ [(i : Int)] ++ l.drop m).length = i + 1 := by rw [List.length_append, List.length_append, List.length_take, List.length_drop, List.length_singleton]; omega
      obtain ⟨l', a', s', z1, z2, z3⟩ := ih (i + 1) (by omega) (l.take m ++ [(i : Int)] ++ l.drop m) a1 s1 h1 hlen
      refine ⟨l', a', s', Ev.step (fun k => ?_) z1, z2, z3⟩
      have l1 : (l.take m).length ≤ 1000 := by rw [List.length_take]; omega
      have l2 : (l.take m ++ [(i : Int)]).length ≤ 1001 := by rw [List.length_append, List.length_singleton]; omega
      have l3 : (l.drop m).length ≤ 1000 := by rw [List.length_drop]; omega
      have o : spec_l01Own.f (l.take m) = some (l.take m) := by
        unfold spec_l01Own.f
        simp only [Option.bind_some, List.nil_append, List.length_nil]
        rw [if_pos (by omega)]
      rw [spec_l01DrawOf.l0, if_pos (by omega), w64n i (by omega), e1]
      simp only [Option.bind_some, toNat_cast]
      rw [if_pos (show (0 : Int) ≤ (m : Int) by omega), if_pos (show (m : Int) ≤ (l.length : Int) by omega), o]
      simp only [Option.bind_some, List.length_singleton]
      rw [if_pos (show (l.take m).length + 1 < 17592186044416 by omega), if_pos (show (l.take m ++ [(i : Int)]).length + (l.drop m).length < 17592186044416 by omega)]
  obtain ⟨l', a', s', z1, z2, z3⟩ := loop n 0 (by omega) [] a s h0 rfl
  exact ⟨l', a', s', Ev.congr (fun k => rfl) z1, z2, z3⟩
theorem drawOrder_ok {c : List Int} {a s : Int} (h0 : Src c a s) : ∃ l a' s', Ev (fun k => spec_l01DrawOrder.f k c a s) (l, a', s') ∧ Src c a' s' ∧ l.length ≤ 100 := by
  obtain ⟨r1, a1, s1, e1, h1, m1⟩ := pick_ok h0 [6, 9, 14] (by simp) (by simp)
  have m1' : 6 ≤ r1 ∧ r1 ≤ 14 := by simp at m1; omega
  obtain ⟨r2, a2, s2, e2, h2, p2, q2⟩ := next_ok h1 r1 (by omega)
  have q2' := q2 (by omega)
  obtain ⟨n2, rfl⟩ := Int.eq_ofNat_of_zero_le p2
  obtain ⟨l, a3, s3, e3, h3, hl⟩ := drawOf_ok h2 n2 (by omega)
  obtain ⟨r4, a4, s4, e4, h4, p4, q4⟩ := next_ok h3 24 (by omega)
  unfold spec_l01DrawOrder.f
  simp only [e1, e2, Option.bind_some]
  by_cases c0 : r4 = 0
  · obtain ⟨r5, a5, s5, e5, h5, m5⟩ := pick_ok h4 [(-1), 0, (l.length : Int), wrap64 ((l.length : Int) + 1)] (by simp) (by simp)
    refine ⟨l ++ [r5], a5, s5, Ev.bind e3 ?_, h5, by rw [List.length_append, List.length_singleton]; omega⟩
    simp only [e4, Option.bind_some, if_pos c0, e5]
    exact Ev_ite_t (by omega) (Ev.now _)
  by_cases c1 : r4 = 1
  · obtain ⟨r5, a5, s5, e5, h5, p5, q5⟩ := next_ok h4 2 (by omega)
    have q5' := q5 (by omega)
    obtain ⟨l', a6, s6, e6, h6, l6⟩ := drawOf_ok h5 (64 + r5.toNat) (by omega)
    refine ⟨l', a6, s6, Ev.bind e3 ?_, h6, by omega⟩
    simp only [e4, Option.bind_some, if_neg c0, if_pos c1, e5]
    rw [show wrap64 (64 + r5) = ((64 + r5.toNat : Nat) : Int) by rw [w64 (by omega) (by omega)]; omega]
    exact Ev.bind e6 (Ev.now _)
  · refine ⟨l, a4, s4, Ev.bind e3 ?_, h4, by omega⟩
    simp only [e4, Option.bind_some, if_neg c0, if_neg c1]
    exact Ev.now _
theorem likeInts_ev (l : List Int) (hl : l.length ≤ 35184372088832) : Ev (fun k => laws_likeInts.f k l l) true := by
  have loop : ∀ (d i : Nat), i + d = l.length → Ev (fun k => laws_likeInts.l0 k l l (i : Int)) true := by
    intro d
    induction d with
    | zero =>
      intro i hi
      refine Ev.step (f := fun _ => some true) (fun k => by rw [laws_likeInts.l0, if_neg (by omega)]) (Ev.now _)
    | succ d ih =>
      intro i hi
      refine Ev.step (f := fun k => laws_likeInts.l0 k l l ((i + 1 : Nat) : Int)) (fun k => by rw [laws_likeInts.l0, if_pos (by omega), if_pos (by omega), if_pos (by omega), if_pos rfl, w64n i (by omega)]) ?_
      exact ih (i + 1) (by omega)
  refine Ev.congr (f := fun k => laws_likeInts.l0 k l l ((0 : Nat) : Int)) (fun k => ?_) (loop l.length 0 (by omega))
  simp only [laws_likeInts.f, if_true]
  rfl
theorem drawCompose_ok (c : List Int) (hc : c.length ≤ 4096) (hb : ∀ x ∈ c, 0 ≤ x ∧ x ≤ 255) : ∃ p q, Ev (fun k => spec_DrawComposeOrders.f k c) (p, q) ∧ p.length ≤ 1000 ∧ q.length ≤ 1000 := by
  obtain ⟨a, s, e0, h0⟩ := from_ok c hc hb
  obtain ⟨p, a1, s1, e1, h1, l1⟩ := drawOrder_ok h0
  obtain ⟨r, a2, s2, e2, h2, _, _⟩ := next_ok h1 6 (by omega)
  unfold spec_DrawComposeOrders.f
  by_cases c0 : r = 0
  · obtain ⟨q, a3, s3, e3, h3, l3⟩ := drawOrder_ok h2
    refine ⟨p, q, Ev.bind e0 (Ev.bind e1 ?_), by omega, by omega⟩
    simp only [e2, Option.bind_some, if_pos c0]
    exact Ev.bind e3 (Ev.now _)
  · obtain ⟨q, a3, s3, e3, h3, l3⟩ := drawOf_ok h2 p.length (by omega)
    refine ⟨p, q, Ev.bind e0 (Ev.bind e1 ?_), by omega, by omega⟩
    simp only [e2, Option.bind_some, if_neg c0]
    exact Ev.bind e3 (Ev.now _)
theorem pigeon : ∀ (n : Nat) (f : Nat → Nat), (∀ i, i < n → f i < n) → (∀ i j, i < n → j < n → f i = f j → i = j) → ∀ m, m < n → ∃ i, i < n ∧ f i = m
  | 0, f, _, _, m, hm => absurd hm (Nat.not_lt_zero _)
  | n + 1, f, h1, h2, m, hm => by
    by_cases hn : ∃ i, i < n ∧ f i = n
    · obtain ⟨i0, g1, g2⟩ := hn
      have hne : f n ≠ n := fun e => by have := h2 n i0 (by omega) (by omega) (by omega); omega
      have hfn : f n < n := by have := h1 n (by omega); omega
      have ih := pigeon n (fun i => if f i = n then f n else f i) (fun i hi => by
        by_cases e : f i = n
        · simp only [e, if_true]; exact hfn
        · simp only [if_neg e]; have := h1 i (by omega); omega) (fun i j hi hj e => by
        by_cases ei : f i = n
        · by_cases ej : f j = n
          · exact h2 i j (by omega) (by omega) (by omega)
          · simp only [if_pos ei, if_neg ej] at e
            have := h2 n j (by omega) (by omega) e
            omega
        · by_cases ej : f j = n
          · simp only [if_neg ei, if_pos ej] at e
            have := h2 i n (by omega) (by omega) e
            omega
          · simp only [if_neg ei, if_neg ej] at e
            exact h2 i j (by omega) (by omega) e)
      by_cases em : m = n
      · exact ⟨i0, by omega, by omega⟩
      · obtain ⟨i, hi, e⟩ := ih m (by omega)
        by_cases ei : f i = n
        · simp only [if_pos ei] at e; exact ⟨n, by omega, e⟩
        · simp only [if_neg ei] at e; exact ⟨i, by omega, e⟩
    · have hlt : ∀ i, i < n → f i < n := fun i hi => by
        have := h1 i (by omega)
        have : f i ≠ n := fun e => hn ⟨i, hi, e⟩
        omega
      have ih := pigeon n f hlt (fun i j hi hj e => h2 i j (by omega) (by omega) e)
      have hfn : f n = n := by
        have := h1 n (by omega)
        by_cases e : f n = n
        · exact e
        · obtain ⟨i, hi, e2⟩ := ih (f n) (by omega)
          have := h2 i n (by omega) (by omega) e2
          omega
      by_cases em : m = n
      · exact ⟨n, by omega, by omega⟩
      · obtain ⟨i, hi, e⟩ := ih m (by omega)
        exact ⟨i, by omega, e⟩
theorem ord_at {p : List Int} (h : isOrd p = true) (j : Nat) (hj : j < p.length) : 0 ≤ rd p (j : Int) ∧ rd p (j : Int) < p.length := by
  obtain ⟨_, ho⟩ := isOrd_iff.1 h
  have := ho j (by omega) hj
  exact ⟨this.1, this.2.1⟩
theorem ord_inj {p : List Int} (h : isOrd p = true) {i j : Nat} (hi : i < p.length) (hj : j < p.length) (e : rd p (i : Int) = rd p (j : Int)) : i = j := by
  obtain ⟨_, ho⟩ := isOrd_iff.1 h
  by_cases h1 : i < j
  · exact absurd e ((ho j (by omega) hj).2.2 i h1)
  by_cases h2 : j < i
  · exact absurd e.symm ((ho i (by omega) hi).2.2 j h2)
  · omega
theorem ord_surj {p : List Int} (h : isOrd p = true) (m : Nat) (hm : m < p.length) : ∃ j : Nat, j < p.length ∧ rd p (j : Int) = m := by
  obtain ⟨j, hj, e⟩ := pigeon p.length (fun i => (rd p (i : Int)).toNat) (fun i hi => by have := ord_at h i hi; omega) (fun i j hi hj e => ord_inj h hi hj (by have := ord_at h i hi; have := ord_at h j hj; omega)) m hm
  have := ord_at h j hj
  exact ⟨j, hj, by omega⟩
theorem isOrd_of {p : List Int} (hl : p.length ≤ 64) (h1 : ∀ j : Nat, j < p.length → 0 ≤ rd p (j : Int) ∧ rd p (j : Int) < p.length) (h2 : ∀ i j : Nat, i < p.length → j < p.length → rd p (i : Int) = rd p (j : Int) → i = j) : isOrd p = true := by
  rw [isOrd_iff]
  refine ⟨hl, fun j _ hj => ⟨(h1 j hj).1, (h1 j hj).2, fun t ht e => ?_⟩⟩
  have := h2 t j (by omega) hj e
  omega
theorem comp_rd (p q : List Int) (j : Nat) (hj : j < q.length) : rd (comp p q) (j : Int) = rd p (rd q (j : Int)) := by
  rw [rd_get (by simp [comp]; exact hj), rd_get hj]
  simp [comp]
theorem comp_ord {p q : List Int} (hp : isOrd p = true) (hq : isOrd q = true) (hl : p.length = q.length) : isOrd (comp p q) = true := by
  have h64 := (isOrd_iff.1 hp).1
  have e : (comp p q).length = q.length := by simp [comp]
  refine isOrd_of (by omega) (fun j hj => ?_) (fun i j hi hj he => ?_)
  · rw [comp_rd p q j (by omega)]
    have := ord_at hq j (by omega)
    obtain ⟨v, hv⟩ := Int.eq_ofNat_of_zero_le this.1
    rw [hv]
    have := ord_at hp v (by omega)
    omega
  · rw [comp_rd p q i (by omega), comp_rd p q j (by omega)] at he
    have a := ord_at hq i (by omega)
    have b := ord_at hq j (by omega)
    obtain ⟨u, hu⟩ := Int.eq_ofNat_of_zero_le a.1
    obtain ⟨v, hv⟩ := Int.eq_ofNat_of_zero_le b.1
    rw [hu, hv] at he
    have := ord_inj hp (i := u) (j := v) (by omega) (by omega) he
    exact ord_inj hq (by omega) (by omega) (by omega)
theorem inv_ord {p y : List Int} (hp : isOrd p = true) (hl : y.length = p.length) (h : ∀ j : Nat, j < p.length → rd y (rd p (j : Int)) = j) : isOrd y = true ∧ ∀ m : Nat, m < p.length → rd p (rd y (m : Int)) = m := by
  have h64 := (isOrd_iff.1 hp).1
  have key : ∀ m : Nat, m < p.length → ∃ j : Nat, j < p.length ∧ rd y (m : Int) = j ∧ rd p (j : Int) = m := fun m hm => by
    obtain ⟨j, hj, e⟩ := ord_surj hp m hm
    have := h j hj
    rw [e] at this
    exact ⟨j, hj, this, e⟩
  refine ⟨isOrd_of (by omega) (fun j hj => ?_) (fun i j hi hj he => ?_), fun m hm => ?_⟩
  · obtain ⟨t, ht, e, _⟩ := key j (by omega)
    omega
  · obtain ⟨t, ht, e, g⟩ := key i (by omega)
    obtain ⟨u, hu, e2, g2⟩ := key j (by omega)
    have : t = u := by omega
    subst this
    omega
  · obtain ⟨t, ht, e, g⟩ := key m hm
    rw [e, g]
theorem FnOrders : laws_FnOrders.Pure := by
  intro c hc1 hc2 hw
  apply Ev.rounds
  unfold laws_FnOrders.f laws_big.f
  simp only [Option.bind_some, decide_eq_true_eq]
  by_cases hb : (c.length : Int) > 4096
  · exact Ev_ite_t hb (Ev.now _)
  refine Ev_ite_f hb ?_
  obtain ⟨p, q, hd, lp, lq⟩ := drawCompose_ok c (by omega) (fun x hx => wf8 (hw x hx))
  obtain ⟨r, hrl, hs, hi, hr⟩ := compose_both p q (by omega) (by omega)
  obtain ⟨v, hvl, vs, vi, hv⟩ := inverseOrder_both p (by omega)
  refine Ev.bind hd (Ev.bind hi (Ev.bind hs (Ev.bind vi (Ev.bind vs (Ev_ite_t rfl (Ev.bind (likeInts_ev r.1 (by omega)) (Ev_ite_t rfl (Ev_ite_t rfl (Ev.bind (likeInts_ev v.1 (by omega)) (Ev_ite_t rfl (Ev.bind (implIsOrder_ev p (by omega)) (Ev.bind (specIsOrder_ev p (by omega)) ?_))))))))))))
  have bb : (isOrd p != isOrd p) = false := by cases isOrd p <;> rfl
  rw [bb]
  rcases hv with ⟨hp, v2, v1, v3⟩ | ⟨_, rfl⟩
  · obtain ⟨ho, hinv⟩ := inv_ord hp v1 v3
    obtain ⟨r', hrl', hs', hi', hr'⟩ := compose_both p v.1 (by omega) (by omega)
    obtain rfl : r' = (comp p v.1, 0) := by
      rcases hr' with ⟨_, _, _, e⟩ | ⟨n, _⟩
      · exact e
      · exact absurd ⟨hp, ho, v1.symm⟩ n
    refine Ev.step (f := fun k => (impl_ComposeOrders.f k p v.1).bind fun t => laws_FnOrders.l0 k p r.1 r.2 t.1 t.2 0) (fun k => by rw [laws_FnOrders.j0, if_neg (by simp), if_pos v2]) (Ev.bind hi' ?_)
    have cl : (comp p v.1).length = p.length := by simp [comp, v1]
    have fin : Ev (fun k => laws_FnOrders.l0 k p r.1 r.2 (comp p v.1) 0 ((p.length : Nat) : Int)) true := by
      by_cases h2 : r.2 = 0
      · have : isOrd r.1 = true := by
          rcases hr with ⟨a, b, e, rfl⟩ | ⟨_, rfl | rfl⟩
          · exact comp_ord a b e
          · exact absurd h2 (by simp)
          · exact absurd h2 (by simp)
        have hi2 := implIsOrder_ev r.1 (by omega)
        rw [this] at hi2
        exact Ev.step (f := fun k => (impl_IsOrder.f k r.1).bind fun t => some t) (fun k => by rw [laws_FnOrders.l0, if_neg (by omega), if_pos rfl, if_pos (by omega), if_pos h2]) (Ev.bind hi2 (Ev.now _))
      · exact Ev.step (f := fun _ => some true) (fun k => by rw [laws_FnOrders.l0, if_neg (by omega), if_pos rfl, if_pos (by omega), if_neg h2]) (Ev.now _)
    have loop : ∀ (d i : Nat), i + d = p.length → Ev (fun k => laws_FnOrders.l0 k p r.1 r.2 (comp p v.1) 0 (i : Int)) true := by
      intro d
      induction d with
      | zero =>
        intro i hi
        obtain rfl : i = p.length := by omega
        exact fin
      | succ d ih =>
        intro i hi
        refine Ev.step (fun k => ?_) (ih (i + 1) (by omega))
        rw [laws_FnOrders.l0, if_pos (by omega), if_pos (by omega), if_pos (by rw [comp_rd p v.1 i (by omega)]; exact hinv i (by omega)), w64n i (by omega)]
    exact loop p.length 0 (by omega)
  · exact Ev.step (f := fun _ => some true) (fun k => by rw [laws_FnOrders.j0, if_neg (by simp), if_neg (by simp)]) (Ev.now _)

end Go.Proofs.Ytlenplkbfapjnaa.Pure
