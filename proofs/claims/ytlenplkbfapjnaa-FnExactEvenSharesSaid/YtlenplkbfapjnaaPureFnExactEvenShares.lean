/- The pure statement of FnExactEvenShares: for every input that the row lets in, the law's Lean function answers true; no further condition. -/
import Derived.Test.YtlenplkbfapjnaaPFnExactEvenSharesx2
set_option linter.unusedVariables false
set_option linter.unusedSimpArgs false
namespace Go.Proofs.Ytlenplkbfapjnaa.Pure
open Go.RowKit Go.Proofs.Ytlenplkbfapjnaa.PFnExactEvenShares Go.Proofs.YtlenplkbfapjnaaW.PrintWords Go.Proofs.YtlenplkbfapjnaaW.PrintLast

theorem w64 {x : Int} (h0 : -9223372036854775808 ≤ x) (h1 : x ≤ 9223372036854775807) : wrap64 x = x := by unfold wrap64; omega
theorem w64_range (x : Int) : -9223372036854775808 ≤ wrap64 x ∧ wrap64 x ≤ 9223372036854775807 := by unfold wrap64; omega
theorem wf64 {x : Int} (h : (Lit.int .i64 x).wf = true) : -9223372036854775808 ≤ x ∧ x ≤ 9223372036854775807 := by
  have h' : (decide (IntKind.i64.min ≤ x) && decide (x ≤ IntKind.i64.max)) = true := h
  simp only [Bool.and_eq_true, decide_eq_true_eq] at h'
  exact h'
theorem wf8 {x : Int} (h : (Lit.int .u8 x).wf = true) : 0 ≤ x ∧ x ≤ 255 := by
  have h' : (decide (IntKind.u8.min ≤ x) && decide (x ≤ IntKind.u8.max)) = true := h
  simp only [Bool.and_eq_true, decide_eq_true_eq] at h'
  exact h'
theorem rd_get {xs : List Int} {i : Nat} (h : i < xs.length) : rd xs (i : Int) = xs[i] := by
  simp [rd, List.getD_eq_getElem?_getD, h]
theorem rd_nat (xs : List Int) (i : Nat) : rd xs (i : Int) = xs.getD i 0 := by simp [rd]
theorem rd_mem {xs : List Int} {i : Nat} (h : i < xs.length) : rd xs (i : Int) ∈ xs := by rw [rd_get h]; exact List.getElem_mem h
theorem rd_ext {xs ys : List Int} (hl : xs.length = ys.length) (h : ∀ i : Nat, i < xs.length → rd xs (i : Int) = rd ys (i : Int)) : xs = ys := by
  apply List.ext_getElem hl
  intro i h1 h2
  have := h i h1
  rwa [rd_get h1, rd_get h2] at this
theorem rd_set {xs : List Int} {i j : Nat} {v : Int} (hi : i < xs.length) : rd (xs.set i v) (j : Int) = if i = j then v else rd xs (j : Int) := by
  simp only [rd_nat, List.getD_eq_getElem?_getD, List.getElem?_set]
  by_cases h : i = j
  · subst h; simp [hi]
  · simp [h]
theorem rd_append_left {xs ys : List Int} {j : Nat} (h : j < xs.length) : rd (xs ++ ys) (j : Int) = rd xs (j : Int) := by
  simp only [rd_nat, List.getD_eq_getElem?_getD, List.getElem?_append_left h]
theorem rd_append_at {xs : List Int} {v : Int} : rd (xs ++ [v]) (xs.length : Int) = v := by
  simp [rd_nat, List.getD_eq_getElem?_getD]
theorem rd_take {xs : List Int} {i j : Nat} (h : j < i) : rd (xs.take i) (j : Int) = rd xs (j : Int) := by
  simp [rd_nat, List.getD_eq_getElem?_getD, List.getElem?_take, h]
theorem rd_drop {xs : List Int} {i j : Nat} : rd (xs.drop i) (j : Int) = rd xs ((i + j : Nat) : Int) := by
  simp only [rd_nat, List.getD_eq_getElem?_getD, List.getElem?_drop]
theorem toNat_cast (i : Nat) : ((i : Nat) : Int).toNat = i := Int.toNat_natCast i
theorem drop_cons {xs : List Int} {i : Nat} (h : i < xs.length) : xs.drop i = rd xs (i : Int) :: xs.drop (i + 1) := by
  rw [rd_get h]; exact List.drop_eq_getElem_cons h
theorem Ev_ite_t {α : Type} {c : Prop} [Decidable c] {f g : Nat → Option α} {r : α} (h : c) (k : Ev f r) : Ev (fun n => if c then f n else g n) r :=
  Ev.congr (fun _ => if_pos h) k
theorem Ev_ite_f {α : Type} {c : Prop} [Decidable c] {f g : Nat → Option α} {r : α} (h : ¬ c) (k : Ev g r) : Ev (fun n => if c then f n else g n) r :=
  Ev.congr (fun _ => if_neg h) k
theorem w64n (i : Nat) (h : i < 9223372036854775807) : wrap64 ((i : Int) + 1) = ((i + 1 : Nat) : Int) := by
  rw [w64 (by omega) (by omega)]; rfl
theorem wrap_add_wrap (a b : Int) : wrap64 (wrap64 a + b) = wrap64 (a + b) := by unfold wrap64; omega
theorem wrap_add_wrap' (a b : Int) : wrap64 (a + wrap64 b) = wrap64 (a + b) := by unfold wrap64; omega
theorem l01In_eq (n a b : Int) : spec_l01In.f n a b = some (decide (a ≤ n ∧ n ≤ b)) := by
  unfold spec_l01In.f
  by_cases h : n ≥ a
  · rw [if_pos h]; simp [show a ≤ n from h]
  · rw [if_neg h]; simp [show ¬ a ≤ n from h]
theorem inRange_eq (n a b : Int) : impl_inRange.f n a b = some (decide (a ≤ n ∧ n ≤ b)) := by
  unfold impl_inRange.f
  by_cases h : a ≤ n
  · rw [if_pos h]; simp [h]
  · rw [if_neg h]; simp [h]
def esOne (n k : Int) (i : Nat) : Int := if (i : Int) < Int.tmod n k then wrap64 (wrap64 (Int.tdiv n k) + 1) else wrap64 (Int.tdiv n k)
def es (n k : Int) : Nat → Nat → List Int
  | 0, _ => []
  | d + 1, i => esOne n k i :: es n k d (i + 1)
theorem es_length (n k : Int) : ∀ d i, (es n k d i).length = d
  | 0, _ => rfl
  | d + 1, i => by rw [es, List.length_cons, es_length n k d]
theorem specEven_loop (n : Int) (m : Nat) (hm : 1 ≤ m) (hm1 : m ≤ 64) : ∀ (d i : Nat), i + d = m → ∀ out : List Int, out.length = i → Ev (fun k => spec_EvenShares.l0 k n (m : Int) out (i : Int)) (out ++ es n m d i, 0) := by
  intro d
  induction d with
  | zero =>
    intro i hi out ho
    simp only [es, List.append_nil]
    exact Ev.step (f := fun _ => some (out, 0)) (fun k => by rw [spec_EvenShares.l0, if_neg (by omega)]) (Ev.now _)
  | succ d ih =>
    intro i hi out ho
    have := ih (i + 1) (by omega) (out ++ [esOne n m i]) (by simp [ho])
    rw [List.append_assoc] at this
    refine Ev.step (fun k => ?_) this
    rw [spec_EvenShares.l0, if_pos (by omega), if_neg (by omega), w64n i (by omega)]
    by_cases h : (i : Int) < Int.tmod n m
    · rw [if_pos h, if_pos (by omega), esOne, if_pos h]
    · rw [if_neg h, if_pos (by omega), esOne, if_neg h]
theorem implEven_loop (n : Int) (m : Nat) (hm : 1 ≤ m) (hm1 : m ≤ 64) : ∀ (d i : Nat), i + d = m → ∀ out : List Int, out.length = i → Ev (fun k => impl_evenShares.l0 k n (m : Int) out (m : Int) (i : Int)) (out ++ es n m d i) := by
  intro d
  induction d with
  | zero =>
    intro i hi out ho
    simp only [es, List.append_nil]
    exact Ev.step (f := fun _ => some out) (fun k => by rw [impl_evenShares.l0, if_neg (by omega)]) (Ev.now _)
  | succ d ih =>
    intro i hi out ho
    have := ih (i + 1) (by omega) (out ++ [esOne n m i]) (by simp [ho])
    rw [List.append_assoc] at this
    refine Ev.step (fun k => ?_) this
    rw [impl_evenShares.l0, if_pos (by omega), if_neg (by omega), w64n i (by omega)]
    by_cases h : (i : Int) < Int.tmod n m
    · rw [if_pos h, if_pos (by omega), esOne, if_pos h]
    · rw [if_neg h, if_pos (by omega), esOne, if_neg h]
theorem even_both (n m : Int) : ∃ r : List Int × Int, r.1.length ≤ 64 ∧ Ev (fun k => spec_EvenShares.f k n m) r ∧ Ev (fun k => impl_EvenShares.f k n m) r ∧ (r.2 = 0 → 0 ≤ n ∧ n ≤ 1000000000 ∧ 1 ≤ m ∧ m ≤ 64 ∧ r.1 = es n m m.toNat 0) := by
  by_cases h1 : 0 ≤ n ∧ n ≤ 1000000000
  · by_cases h2 : 1 ≤ m ∧ m ≤ 64
    · obtain ⟨c, rfl⟩ := Int.eq_ofNat_of_zero_le (show 0 ≤ m by omega)
      refine ⟨(es n c c 0, 0), by rw [es_length]; omega, ?_, ?_, fun _ => ⟨h1.1, h1.2, h2.1, h2.2, by rw [toNat_cast]⟩⟩
      · unfold spec_EvenShares.f
        simp only [l01In_eq, Option.bind_some, decide_eq_true_eq]
        refine Ev_ite_t h1 (Ev.step (f := fun k => spec_EvenShares.l0 k n c [] ((0 : Nat) : Int)) (fun k => ?_) (specEven_loop n c (by omega) (by omega) c 0 (by omega) [] rfl))
        rw [spec_EvenShares.j0, decide_eq_true h2]
        rfl
      · unfold impl_EvenShares.f
        simp only [inRange_eq, Option.bind_some, decide_eq_true_eq]
        exact Ev_ite_t h1 (Ev_ite_t h2 (Ev.bind (a := es n c c 0) (Ev.congr (fun k => rfl) (implEven_loop n c (by omega) (by omega) c 0 (by omega) [] rfl)) (Ev.now _)))
    · refine ⟨([], 2), by simp, ?_, ?_, fun h => by simp at h⟩
      · unfold spec_EvenShares.f
        simp only [l01In_eq, Option.bind_some, decide_eq_true_eq]
        refine Ev_ite_t h1 (Ev.step (f := fun _ => some ([], 2)) (fun k => ?_) (Ev.now _))
        rw [spec_EvenShares.j0, decide_eq_false h2]
        rfl
      · unfold impl_EvenShares.f
        simp only [inRange_eq, Option.bind_some, decide_eq_true_eq]
        exact Ev_ite_t h1 (Ev_ite_f h2 (Ev.now _))
  · refine ⟨([], 2), by simp, ?_, ?_, fun h => by simp at h⟩
    · unfold spec_EvenShares.f
      simp only [l01In_eq, Option.bind_some, decide_eq_true_eq]
      exact Ev_ite_f h1 (Ev.step (f := fun _ => some ([], 2)) (fun k => by rw [spec_EvenShares.j0]; rfl) (Ev.now _))
    · unfold impl_EvenShares.f
      simp only [inRange_eq, Option.bind_some, decide_eq_true_eq]
      exact Ev_ite_f h1 (Ev.now _)
theorem eqInt64S_ev (l : List Int) (hl : l.length ≤ 35184372088832) : Ev (fun k => laws_eqInt64S.f k l l) true := by
  have loop : ∀ (d i : Nat), i + d = l.length → Ev (fun k => laws_eqInt64S.l0 k l l (i : Int)) true := by
    intro d
    induction d with
    | zero =>
      intro i hi
      refine Ev.step (f := fun _ => some true) (fun k => by rw [laws_eqInt64S.l0, if_neg (by omega)]) (Ev.now _)
    | succ d ih =>
      intro i hi
      refine Ev.step (f := fun k => laws_eqInt64S.l0 k l l ((i + 1 : Nat) : Int)) (fun k => by rw [laws_eqInt64S.l0, if_pos (by omega), if_pos (by omega), if_pos (by omega), if_pos rfl, w64n i (by omega)]) ?_
      exact ih (i + 1) (by omega)
  refine Ev.congr (f := fun k => laws_eqInt64S.l0 k l l ((0 : Nat) : Int)) (fun k => ?_) (loop l.length 0 (by omega))
  simp only [laws_eqInt64S.f, if_true]
  rfl
theorem markInt64S_ev (l : List Int) (q : Int) (hl : l.length ≤ 35184372088832) (hq : 0 ≤ q) (hq1 : q ≤ 1000000000000000000) :
    ∃ x : List Int, x.length = l.length ∧ (∀ j : Nat, j < l.length → rd x (j : Int) = q + j) ∧ Ev (fun k => laws_markInt64S.f k l q) (q + l.length, x) := by
  have loop : ∀ (d i : Nat), i + d = l.length → ∀ x : List Int, x.length = l.length → (∀ j : Nat, j < i → rd x (j : Int) = q + j) →
      ∃ y : List Int, y.length = l.length ∧ (∀ j : Nat, j < l.length → rd y (j : Int) = q + j) ∧ Ev (fun k => laws_markInt64S.l0 k x (q + i) (i : Int)) (q + l.length, y) := by
    intro d
    induction d with
    | zero =>
      intro i hi x hx h
      obtain rfl : i = l.length := by omega
      exact ⟨x, hx, h, Ev.step (f := fun _ => some (q + l.length, x)) (fun k => by rw [laws_markInt64S.l0, if_neg (by omega)]) (Ev.now _)⟩
    | succ d ih =>
      intro i hi x hx h
      obtain ⟨y, h1, h2, h3⟩ := ih (i + 1) (by omega) (x.set i (q + i)) (by rw [List.length_set]; exact hx) (fun j hj => by
        rw [rd_set (by omega)]
        by_cases e : i = j
        · rw [if_pos e, e]
        · rw [if_neg e]; exact h j (by omega))
      refine ⟨y, h1, h2, Ev.step (fun k => ?_) h3⟩
      have e1 : wrap64 (q + (i : Int) + 1) = q + ((i + 1 : Nat) : Int) := by rw [w64 (by omega) (by omega)]; omega
      rw [laws_markInt64S.l0, if_pos (by omega), if_pos (by omega), w64n i (by omega), toNat_cast, e1]
  obtain ⟨y, h1, h2, h3⟩ := loop l.length 0 (by omega) l rfl (fun j hj => by omega)
  refine ⟨y, h1, h2, Ev.congr (fun k => ?_) h3⟩
  simp only [laws_markInt64S.f]
  rw [show q + ((0 : Nat) : Int) = q by omega]
  rfl
theorem heldInt64S_ev (x : List Int) (n : Nat) (q : Int) (hx : x.length = n) (h : ∀ j : Nat, j < n → rd x (j : Int) = q + j) (hl : n ≤ 35184372088832) (hq : 0 ≤ q) (hq1 : q ≤ 1000000000000000000) :
    Ev (fun k => laws_heldInt64S.f k x q) (q + n) := by
  have loop : ∀ (d i : Nat), i + d = n → Ev (fun k => laws_heldInt64S.l0 k x (q + i) (i : Int)) (q + n) := by
    intro d
    induction d with
    | zero =>
      intro i hi
      obtain rfl : i = n := by omega
      exact Ev.step (f := fun _ => some (q + (i : Int))) (fun k => by rw [laws_heldInt64S.l0, if_neg (by omega)]) (Ev.now _)
    | succ d ih =>
      intro i hi
      refine Ev.step (fun k => ?_) (ih (i + 1) (by omega))
      have e1 : wrap64 (q + (i : Int) + 1) = q + ((i + 1 : Nat) : Int) := by rw [w64 (by omega) (by omega)]; omega
      rw [laws_heldInt64S.l0, if_pos (by omega), if_pos (by omega), if_pos (h i (by omega)), w64n i (by omega), e1]
  refine Ev.congr (fun k => ?_) (loop n 0 (by omega))
  simp only [laws_heldInt64S.f]
  rw [show q + ((0 : Nat) : Int) = q by omega]
  rfl
theorem FnExactEvenShares : laws_FnExactEvenShares.Pure := by
  intro n m hn hm
  apply Ev.rounds
  obtain ⟨r, hl, hs, hi, _⟩ := even_both n m
  obtain ⟨x, x1, x2, x3⟩ := markInt64S_ev r.1 1 (by omega) (by omega) (by omega)
  have hh := heldInt64S_ev x r.1.length 1 x1 x2 (by omega) (by omega) (by omega)
  unfold laws_FnExactEvenShares.f
  refine Ev.bind hs (Ev.bind hi (Ev.bind (eqInt64S_ev r.1 (by omega)) (Ev_ite_t rfl ?_)))
  refine Ev.step (fun k => by rw [laws_FnExactEvenShares.j0, if_neg (by simp)]) ?_
  refine Ev.bind x3 (Ev.bind hh (Ev_ite_f (by omega) (Ev_ite_t rfl (Ev.bind hi (Ev.bind (eqInt64S_ev r.1 (by omega)) (Ev_ite_t rfl ?_))))))
  refine Ev.step (fun k => by rw [laws_FnExactEvenShares.j1, if_neg (by simp)]) ?_
  exact Ev.bind hh (Ev_ite_f (by omega) (Ev_ite_t rfl (Ev.now _)))

end Go.Proofs.Ytlenplkbfapjnaa.Pure
