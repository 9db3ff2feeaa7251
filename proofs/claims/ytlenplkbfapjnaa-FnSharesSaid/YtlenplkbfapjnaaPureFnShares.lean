/- The pure statement of FnShares: for every input that the row lets in, the law's Lean function answers true; no further condition. -/
import Derived.Test.YtlenplkbfapjnaaQFnSharesx2
set_option linter.unusedVariables false
set_option linter.unusedSimpArgs false
namespace Go.Proofs.Ytlenplkbfapjnaa.Pure
open Go.RowKit Go.Proofs.Ytlenplkbfapjnaa.QFnShares Go.Proofs.YtlenplkbfapjnaaW.PrintWords Go.Proofs.YtlenplkbfapjnaaW.PrintLast

theorem w64 {x : Int} (h0 : -9223372036854775808 ≤ x) (h1 : x ≤ 9223372036854775807) : wrap64 x = x := by unfold wrap64; omega
theorem wz : wrap64 0 = 0 := w64 (by omega) (by omega)
theorem w64_range (x : Int) : -9223372036854775808 ≤ wrap64 x ∧ wrap64 x ≤ 9223372036854775807 := by unfold wrap64; omega
theorem wf64 {x : Int} (h : (Lit.int .i64 x).wf = true) : -9223372036854775808 ≤ x ∧ x ≤ 9223372036854775807 := by
  have h' : (decide (IntKind.i64.min ≤ x) && decide (x ≤ IntKind.i64.max)) = true := h
  simp only [Bool.and_eq_true, decide_eq_true_eq] at h'
  exact h'
theorem wf8 {x : Int} (h : (Lit.int .u8 x).wf = true) : 0 ≤ x ∧ x ≤ 255 := by
  have h' : (decide (IntKind.u8.min ≤ x) && decide (x ≤ IntKind.u8.max)) = true := h
  simp only [Bool.and_eq_true, decide_eq_true_eq] at h'
  exact h'
theorem rd_get {xs : List Int} {i : Nat} (h : i < xs.length) : rd xs (i : Int) = xs[i] := by
  simp [rd, List.getD_eq_getElem?_getD, h]
theorem rd_nat (xs : List Int) (i : Nat) : rd xs (i : Int) = xs.getD i 0 := by simp [rd]
theorem rd_mem {xs : List Int} {i : Nat} (h : i < xs.length) : rd xs (i : Int) ∈ xs := by rw [rd_get h]; exact List.getElem_mem h
theorem rd_ext {xs ys : List Int} (hl : xs.length = ys.length) (h : ∀ i : Nat, i < xs.length → rd xs (i : Int) = rd ys (i : Int)) : xs = ys := by
  apply List.ext_getElem hl
  intro i h1 h2
  have := h i h1
  rwa [rd_get h1, rd_get h2] at this
theorem rd_set {xs : List Int} {i j : Nat} {v : Int} (hi : i < xs.length) : rd (xs.set i v) (j : Int) = if i = j then v else rd xs (j : Int) := by
  simp only [rd_nat, List.getD_eq_getElem?_getD, List.getElem?_set]
  by_cases h : i = j
  · subst h; simp [hi]
  · simp [h]
theorem rd_append_left {xs ys : List Int} {j : Nat} (h : j < xs.length) : rd (xs ++ ys) (j : Int) = rd xs (j : Int) := by
  simp only [rd_nat, List.getD_eq_getElem?_getD, List.getElem?_append_left h]
theorem rd_append_at {xs : List Int} {v : Int} : rd (xs ++ [v]) (xs.length : Int) = v := by
  simp [rd_nat, List.getD_eq_getElem?_getD]
theorem rd_take {xs : List Int} {i j : Nat} (h : j < i) : rd (xs.take i) (j : Int) = rd xs (j : Int) := by
  simp [rd_nat, List.getD_eq_getElem?_getD, List.getElem?_take, h]
theorem rd_drop {xs : List Int} {i j : Nat} : rd (xs.drop i) (j : Int) = rd xs ((i + j : Nat) : Int) := by
  simp only [rd_nat, List.getD_eq_getElem?_getD, List.getElem?_drop]
theorem toNat_cast (i : Nat) : ((i : Nat) : Int).toNat = i := Int.toNat_natCast i
theorem drop_cons {xs : List Int} {i : Nat} (h : i < xs.length) : xs.drop i = rd xs (i : Int) :: xs.drop (i + 1) := by
  rw [rd_get h]; exact List.drop_eq_getElem_cons h
theorem Ev_ite_t {α : Type} {c : Prop} [Decidable c] {f g : Nat → Option α} {r : α} (h : c) (k : Ev f r) : Ev (fun n => if c then f n else g n) r :=
  Ev.congr (fun _ => if_pos h) k
theorem Ev_ite_f {α : Type} {c : Prop} [Decidable c] {f g : Nat → Option α} {r : α} (h : ¬ c) (k : Ev g r) : Ev (fun n => if c then f n else g n) r :=
  Ev.congr (fun _ => if_neg h) k
theorem w64n (i : Nat) (h : i < 9223372036854775807) : wrap64 ((i : Int) + 1) = ((i + 1 : Nat) : Int) := by
  rw [w64 (by omega) (by omega)]; rfl
theorem wrap_add_wrap (a b : Int) : wrap64 (wrap64 a + b) = wrap64 (a + b) := by unfold wrap64; omega
theorem wrap_add_wrap' (a b : Int) : wrap64 (a + wrap64 b) = wrap64 (a + b) := by unfold wrap64; omega
theorem l01In_eq (n a b : Int) : spec_l01In.f n a b = some (decide (a ≤ n ∧ n ≤ b)) := by
  unfold spec_l01In.f
  by_cases h : n ≥ a
  · rw [if_pos h]; simp [show a ≤ n from h]
  · rw [if_neg h]; simp [show ¬ a ≤ n from h]
theorem inRange_eq (n a b : Int) : impl_inRange.f n a b = some (decide (a ≤ n ∧ n ≤ b)) := by
  unfold impl_inRange.f
  by_cases h : a ≤ n
  · rw [if_pos h]; simp [h]
  · rw [if_neg h]; simp [h]
def esOne (n k : Int) (i : Nat) : Int := if (i : Int) < Int.tmod n k then wrap64 (wrap64 (Int.tdiv n k) + 1) else wrap64 (Int.tdiv n k)
def es (n k : Int) : Nat → Nat → List Int
  | 0, _ => []
  | d + 1, i => esOne n k i :: es n k d (i + 1)
theorem es_length (n k : Int) : ∀ d i, (es n k d i).length = d
  | 0, _ => rfl
  | d + 1, i => by rw [es, List.length_cons, es_length n k d]
theorem specEven_loop (n : Int) (m : Nat) (hm : 1 ≤ m) (hm1 : m ≤ 64) : ∀ (d i : Nat), i + d = m → ∀ out : List Int, out.length = i → Ev (fun k => spec_EvenShares.l0 k n (m : Int) out (i : Int)) (out ++ es n m d i, 0) := by
  intro d
  induction d with
  | zero =>
    intro i hi out ho
    simp only [es, List.append_nil]
    exact Ev.step (f := fun _ => some (out, 0)) (fun k => by rw [spec_EvenShares.l0, if_neg (by omega)]) (Ev.now _)
  | succ d ih =>
    intro i hi out ho
    have := ih (i + 1) (by omega) (out ++ [esOne n m i]) (by simp [ho])
    rw [List.append_assoc] at this
    refine Ev.step (fun k => ?_) this
    rw [spec_EvenShares.l0, if_pos (by omega), if_neg (by omega), w64n i (by omega)]
    by_cases h : (i : Int) < Int.tmod n m
    · rw [if_pos h, if_pos (by omega), esOne, if_pos h]
    · rw [if_neg h, if_pos (by omega), esOne, if_neg h]
theorem implEven_loop (n : Int) (m : Nat) (hm : 1 ≤ m) (hm1 : m ≤ 64) : ∀ (d i : Nat), i + d = m → ∀ out : List Int, out.length = i → Ev (fun k => impl_evenShares.l0 k n (m : Int) out (m : Int) (i : Int)) (out ++ es n m d i) := by
  intro d
  induction d with
  | zero =>
    intro i hi out ho
    simp only [es, List.append_nil]
    exact Ev.step (f := fun _ => some out) (fun k => by rw [impl_evenShares.l0, if_neg (by omega)]) (Ev.now _)
  | succ d ih =>
    intro i hi out ho
    have := ih (i + 1) (by omega) (out ++ [esOne n m i]) (by simp [ho])
    rw [List.append_assoc] at this
    refine Ev.step (fun k => ?_) this
    rw [impl_evenShares.l0, if_pos (by omega), if_neg (by omega), w64n i (by omega)]
    by_cases h : (i : Int) < Int.tmod n m
    · rw [if_pos h, if_pos (by omega), esOne, if_pos h]
    · rw [if_neg h, if_pos (by omega), esOne, if_neg h]
theorem even_both (n m : Int) : ∃ r : List Int × Int, r.1.length ≤ 64 ∧ Ev (fun k => spec_EvenShares.f k n m) r ∧ Ev (fun k => impl_EvenShares.f k n m) r ∧ (r.2 = 0 → 0 ≤ n ∧ n ≤ 1000000000 ∧ 1 ≤ m ∧ m ≤ 64 ∧ r.1 = es n m m.toNat 0) := by
  by_cases h1 : 0 ≤ n ∧ n ≤ 1000000000
  · by_cases h2 : 1 ≤ m ∧ m ≤ 64
    · obtain ⟨c, rfl⟩ := Int.eq_ofNat_of_zero_le (show 0 ≤ m by omega)
      refine ⟨(es n c c 0, 0), by rw [es_length]; omega, ?_, ?_, fun _ => ⟨h1.1, h1.2, h2.1, h2.2, by rw [toNat_cast]⟩⟩
      · unfold spec_EvenShares.f
        simp only [l01In_eq, Option.bind_some, decide_eq_true_eq]
        refine Ev_ite_t h1 (Ev.step (f := fun k => spec_EvenShares.l0 k n c [] ((0 : Nat) : Int)) (fun k => ?_) (specEven_loop n c (by omega) (by omega) c 0 (by omega) [] rfl))
        rw [spec_EvenShares.j0, decide_eq_true h2]
        rfl
      · unfold impl_EvenShares.f
        simp only [inRange_eq, Option.bind_some, decide_eq_true_eq]
        exact Ev_ite_t h1 (Ev_ite_t h2 (Ev.bind (a := es n c c 0) (Ev.congr (fun k => rfl) (implEven_loop n c (by omega) (by omega) c 0 (by omega) [] rfl)) (Ev.now _)))
    · refine ⟨([], 2), by simp, ?_, ?_, fun h => by simp at h⟩
      · unfold spec_EvenShares.f
        simp only [l01In_eq, Option.bind_some, decide_eq_true_eq]
        refine Ev_ite_t h1 (Ev.step (f := fun _ => some ([], 2)) (fun k => ?_) (Ev.now _))
        rw [spec_EvenShares.j0, decide_eq_false h2]
        rfl
      · unfold impl_EvenShares.f
        simp only [inRange_eq, Option.bind_some, decide_eq_true_eq]
        exact Ev_ite_t h1 (Ev_ite_f h2 (Ev.now _))
  · refine ⟨([], 2), by simp, ?_, ?_, fun h => by simp at h⟩
    · unfold spec_EvenShares.f
      simp only [l01In_eq, Option.bind_some, decide_eq_true_eq]
      exact Ev_ite_f h1 (Ev.step (f := fun _ => some ([], 2)) (fun k => by rw [spec_EvenShares.j0]; rfl) (Ev.now _))
    · unfold impl_EvenShares.f
      simp only [inRange_eq, Option.bind_some, decide_eq_true_eq]
      exact Ev_ite_f h1 (Ev.now _)
def Src (c : List Int) (a s : Int) : Prop := c.length ≤ 4096 ∧ (∀ x ∈ c, 0 ≤ x ∧ x ≤ 255) ∧ 0 ≤ a ∧ a ≤ c.length ∧ 0 ≤ s ∧ s < 2147483647
theorem tmod_range {x m : Int} (h : 0 ≤ x) (hm : 0 < m) : 0 ≤ Int.tmod x m ∧ Int.tmod x m < m := ⟨Int.tmod_nonneg _ h, Int.tmod_lt_of_pos _ hm⟩
theorem rd_byte {c : List Int} (hc : ∀ x ∈ c, 0 ≤ x ∧ x ≤ 255) (i : Int) : 0 ≤ rd c i ∧ rd c i ≤ 255 := by
  unfold rd
  by_cases h : i.toNat < c.length
  · simp only [List.getD_eq_getElem?_getD, List.getElem?_eq_getElem h, Option.getD_some]
    exact hc _ (List.getElem_mem h)
  · simp only [List.getD_eq_getElem?_getD, List.getElem?_eq_none (Nat.le_of_not_lt h), Option.getD_none]
    omega
theorem next_ok {c : List Int} {a s : Int} (h : Src c a s) (n : Int) (hn : n ≤ 9000000000000000000) :
    ∃ r a' s', spec_l01Next.f c a s n = some (r, a', s') ∧ Src c a' s' ∧ 0 ≤ r ∧ (1 ≤ n → r < n) := by
  obtain ⟨h1, h2, h3, h4, h5, h6⟩ := h
  unfold spec_l01Next.f
  by_cases hn1 : n ≤ 1
  · rw [if_pos hn1]
    exact ⟨0, a, s, rfl, ⟨h1, h2, h3, h4, h5, h6⟩, by omega, by omega⟩
  · rw [if_neg hn1]
    have e1 : wrap64 (wrap64 (s * 48271) + 61) = s * 48271 + 61 := by rw [w64 (x := s * 48271) (by omega) (by omega), w64 (by omega) (by omega)]
    rw [e1]
    have m1 := tmod_range (x := s * 48271 + 61) (m := 2147483647) (by omega) (by omega)
    generalize Int.tmod (s * 48271 + 61) 2147483647 = s1 at *
    have d1 : 0 ≤ Int.tdiv s1 31 ∧ Int.tdiv s1 31 ≤ 2147483647 := by
      rw [Int.tdiv_eq_ediv_of_nonneg m1.1]; omega
    rw [w64 (x := Int.tdiv s1 31) (by omega) (by omega)]
    generalize Int.tdiv s1 31 = q at *
    by_cases ha : a < (c.length : Int)
    · have e2 : wrap64 (a + 1) = a + 1 := w64 (by omega) (by omega)
      have e3 : wrap64 (a + 1 - 1) = a := by rw [w64 (by omega) (by omega)]; omega
      have b1 := rd_byte h2 a
      rw [if_pos ha, if_pos h3, e2, e3, w64 (x := rd c a) (by omega) (by omega), w64 (x := q + rd c a) (by omega) (by omega)]
      have r1 := tmod_range (x := rd c a) (m := n) b1.1 (by omega)
      have r2 := tmod_range (x := q + rd c a) (m := n) (by omega) (by omega)
      have hs : Src c (a + 1) s1 := ⟨h1, h2, by omega, by omega, m1.1, m1.2⟩
      by_cases hb : n ≤ 256
      · rw [if_pos hb]
        by_cases hc : Int.tmod (a + 1) 2 = 0
        · rw [if_pos hc, if_pos h3, if_pos ha, if_neg (by omega)]
          exact ⟨_, _, _, rfl, hs, r1.1, fun _ => r1.2⟩
        · rw [if_neg hc, if_neg (by omega)]
          exact ⟨_, _, _, rfl, hs, r2.1, fun _ => r2.2⟩
      · rw [if_neg hb, if_neg (by omega)]
        exact ⟨_, _, _, rfl, hs, r2.1, fun _ => r2.2⟩
    · rw [if_neg ha, if_neg (by omega)]
      have r1 := tmod_range (x := q) (m := n) (by omega) (by omega)
      exact ⟨_, _, _, rfl, ⟨h1, h2, h3, h4, m1.1, m1.2⟩, r1.1, fun _ => r1.2⟩
theorem from_ok (c : List Int) (hc : c.length ≤ 4096) (hb : ∀ x ∈ c, 0 ≤ x ∧ x ≤ 255) : ∃ a s, Ev (fun k => spec_l01From.f k c) (c, a, s) ∧ Src c a s := by
  have loop : ∀ (d i : Nat), i + d = c.length → ∀ s : Int, 0 ≤ s → s < 2147483647 → ∃ s', 0 ≤ s' ∧ s' < 2147483647 ∧ Ev (fun k => spec_l01From.l0 k c (i : Int) c 0 s) (c, 0, s') := by
    intro d
    induction d with
    | zero =>
      intro i hi s h0 h1
      exact ⟨s, h0, h1, Ev.step (f := fun _ => some (c, 0, s)) (fun k => by rw [spec_l01From.l0, if_neg (by omega)]) (Ev.now _)⟩
    | succ d ih =>
      intro i hi s h0 h1
      by_cases h64 : i < 64
      · have b1 := rd_byte hb (i : Int)
        have e1 : wrap64 (wrap64 (s * 71) + wrap64 (rd c (i : Int))) = s * 71 + rd c (i : Int) := by
          rw [w64 (x := s * 71) (by omega) (by omega), w64 (x := rd c (i : Int)) (by omega) (by omega), w64 (by omega) (by omega)]
        have m1 := tmod_range (x := s * 71 + rd c (i : Int)) (m := 2147483647) (by omega) (by omega)
        obtain ⟨s', g0, g1, g2⟩ := ih (i + 1) (by omega) (Int.tmod (s * 71 + rd c (i : Int)) 2147483647) m1.1 m1.2
        refine ⟨s', g0, g1, Ev.step (fun k => ?_) g2⟩
        rw [spec_l01From.l0, if_pos (by omega), if_pos (by omega), if_pos (by omega), w64n i (by omega), e1]
      · exact ⟨s, h0, h1, Ev.step (f := fun _ => some (c, 0, s)) (fun k => by rw [spec_l01From.l0, if_pos (by omega), if_neg (by omega)]) (Ev.now _)⟩
  obtain ⟨s', g0, g1, g2⟩ := loop c.length 0 (by omega) 88007 (by omega) (by omega)
  exact ⟨0, s', Ev.congr (fun k => rfl) g2, hc, hb, by omega, by omega, g0, g1⟩
theorem pick_ok {c : List Int} {a s : Int} (h : Src c a s) (l : List Int) (h0 : 0 < l.length) (h1 : l.length ≤ 1000) :
    ∃ r a' s', spec_l01Pick.f c a s l = some (r, a', s') ∧ Src c a' s' ∧ r ∈ l := by
  obtain ⟨r, a', s', e, hs, h2, h3⟩ := next_ok h (l.length : Int) (by omega)
  have h4 := h3 (by omega)
  unfold spec_l01Pick.f
  rw [e]
  simp only [Option.bind_some]
  rw [if_pos h2, if_pos h4]
  refine ⟨_, _, _, rfl, hs, ?_⟩
  obtain ⟨m, rfl⟩ := Int.eq_ofNat_of_zero_le h2
  exact rd_mem (by omega)
theorem likeInts_ev (l : List Int) (hl : l.length ≤ 35184372088832) : Ev (fun k => laws_likeInts.f k l l) true := by
  have loop : ∀ (d i : Nat), i + d = l.length → Ev (fun k => laws_likeInts.l0 k l l (i : Int)) true := by
    intro d
    induction d with
    | zero =>
      intro i hi
      refine Ev.step (f := fun _ => some true) (fun k => by rw [laws_likeInts.l0, if_neg (by omega)]) (Ev.now _)
    | succ d ih =>
      intro i hi
      refine Ev.step (f := fun k => laws_likeInts.l0 k l l ((i + 1 : Nat) : Int)) (fun k => by rw [laws_likeInts.l0, if_pos (by omega), if_pos (by omega), if_pos (by omega), if_pos rfl, w64n i (by omega)]) ?_
      exact ih (i + 1) (by omega)
  refine Ev.congr (f := fun k => laws_likeInts.l0 k l l ((0 : Nat) : Int)) (fun k => ?_) (loop l.length 0 (by omega))
  simp only [laws_likeInts.f, if_true]
  rfl
theorem sum_ev (l : List Int) (hl : l.length ≤ 35184372088832) : Ev (fun k => laws_sum.f k l) (wrap64 l.sum) := by
  have loop : ∀ (d i : Nat), i + d = l.length → ∀ s : Int, Ev (fun k => laws_sum.l0 k l (wrap64 s) (i : Int)) (wrap64 (s + (l.drop i).sum)) := by
    intro d
    induction d with
    | zero =>
      intro i hi s
      rw [List.drop_of_length_le (by omega), List.sum_nil, Int.add_zero]
      exact Ev.step (f := fun _ => some (wrap64 s)) (fun k => by rw [laws_sum.l0, if_neg (by omega)]) (Ev.now _)
    | succ d ih =>
      intro i hi s
      rw [drop_cons (by omega), List.sum_cons, ← Int.add_assoc]
      refine Ev.step (fun k => ?_) (ih (i + 1) (by omega) (s + rd l (i : Int)))
      rw [laws_sum.l0, if_pos (by omega), if_pos (by omega), w64n i (by omega), wrap_add_wrap]
  have := loop l.length 0 (by omega) 0
  rw [List.drop_zero, Int.zero_add, wz] at this
  exact Ev.congr (fun k => rfl) this
theorem drawEven_ok (c : List Int) (hc : c.length ≤ 4096) (hb : ∀ x ∈ c, 0 ≤ x ∧ x ≤ 255) : ∃ r, Ev (fun k => spec_DrawEvenShares.f k c) r := by
  obtain ⟨a, s, hf, h0⟩ := from_ok c hc hb
  obtain ⟨r1, a1, s1, e1, h1, _⟩ := next_ok h0 10 (by omega)
  unfold spec_DrawEvenShares.f
  by_cases h : r1 = 0
  · obtain ⟨r2, a2, s2, e2, h2, _⟩ := pick_ok h1 [(-1), 0, 1000000000, 1000000001] (by simp) (by simp)
    obtain ⟨r3, a3, s3, e3, h3, _⟩ := pick_ok h2 [0, 1, 64, 65] (by simp) (by simp)
    refine ⟨(r2, r3), Ev.bind hf ?_⟩
    simp only [e1, Option.bind_some, h, if_true, e2, e3]
    exact Ev.now _
  · obtain ⟨r2, a2, s2, e2, h2, _⟩ := next_ok h1 200 (by omega)
    obtain ⟨r3, a3, s3, e3, h3, _⟩ := next_ok h2 12 (by omega)
    refine ⟨(r2, wrap64 (1 + r3)), Ev.bind hf ?_⟩
    simp only [e1, Option.bind_some, if_neg h, e2, e3]
    exact Ev.now _
theorem es_sum (n k : Int) (h0 : 0 ≤ n) (h1 : n ≤ 1000000000) (hk : 1 ≤ k) : ∀ (d i : Nat), (es n k d i).sum = d * (n / k) + (max 0 (min (d : Int) (n % k - i))) := by
  intro d
  have hd : Int.tdiv n k = n / k := Int.tdiv_eq_ediv_of_nonneg h0
  have hm : Int.tmod n k = n % k := Int.tmod_eq_emod_of_nonneg h0
  have hq0 : 0 ≤ n / k := Int.ediv_nonneg h0 (by omega)
  have hq1 : n / k ≤ n := Int.ediv_le_self _ h0
  induction d with
  | zero => intro i; simp [es]; omega
  | succ d ih =>
    intro i
    rw [es, List.sum_cons, ih (i + 1), esOne, hd, hm, w64 (x := n / k) (by omega) (by omega), w64 (x := n / k + 1) (by omega) (by omega)]
    generalize n / k = q at *
    generalize n % k = r at *
    have e : ((d + 1 : Nat) : Int) * q = d * q + q := by rw [Int.natCast_add, Int.add_mul]; omega
    rw [e]
    generalize (d : Int) * q = z
    split <;> omega
theorem es_rd (n k : Int) : ∀ (d i j : Nat), j < d → rd (es n k d i) (j : Int) = esOne n k (i + j)
  | 0, i, j, h => by omega
  | d + 1, i, 0, h => by simp [es, rd]
  | d + 1, i, j + 1, h => by
    have := es_rd n k d (i + 1) j (by omega)
    rw [rd_nat] at this ⊢
    rw [es, List.getD_cons_succ, this, show i + 1 + j = i + (j + 1) by omega]
theorem FnShares : laws_FnShares.Pure := by
  intro c hc1 hc2 hw
  apply Ev.rounds
  unfold laws_FnShares.f laws_big.f
  simp only [Option.bind_some, decide_eq_true_eq]
  by_cases hb : (c.length : Int) > 4096
  · exact Ev_ite_t hb (Ev.now _)
  · refine Ev_ite_f hb ?_
    obtain ⟨r, hr⟩ := drawEven_ok c (by omega) (fun x hx => wf8 (hw x hx))
    obtain ⟨v, hl, hs, hi, hv⟩ := even_both r.1 r.2
    refine Ev.bind hr (Ev.bind hi (Ev.bind hs (Ev_ite_t rfl (Ev.bind (likeInts_ev v.1 (by omega)) (Ev_ite_t rfl ?_)))))
    by_cases h0 : v.2 = 0
    · obtain ⟨n0, n1, k0, k1, hes⟩ := hv h0
      obtain ⟨m, hm⟩ := Int.eq_ofNat_of_zero_le (show 0 ≤ r.2 by omega)
      have hlen : v.1.length = m := by rw [hes, es_length, hm, toNat_cast]
      have hsum := es_sum r.1 r.2 n0 n1 k0 m 0
      have hdiv : r.2 * (r.1 / r.2) + r.1 % r.2 = r.1 := Int.mul_ediv_add_emod r.1 r.2
      have hmod0 := Int.emod_nonneg r.1 (show r.2 ≠ 0 by omega)
      have hmod1 := Int.emod_lt_of_pos r.1 (show 0 < r.2 by omega)
      have hs2 : v.1.sum = r.1 := by
        rw [hes, hm, toNat_cast, ← hm, hsum, ← hm]
        generalize r.2 * (r.1 / r.2) = z at *
        omega
      have hsv := sum_ev v.1 (by omega)
      rw [hs2, w64 (x := r.1) (by omega) (by omega)] at hsv
      refine Ev_ite_t h0 (Ev.bind hsv (Ev_ite_t rfl (Ev_ite_t (by omega) (Ev_ite_t (by omega) ?_))))
      have e1 : wrap64 ((v.1.length : Int) - 1) = ((m - 1 : Nat) : Int) := by rw [w64 (by omega) (by omega)]; omega
      rw [e1]
      refine Ev_ite_t (by omega) (Ev_ite_t (by omega) ?_)
      have hd : Int.tdiv r.1 r.2 = r.1 / r.2 := Int.tdiv_eq_ediv_of_nonneg n0
      have hq0 : 0 ≤ r.1 / r.2 := Int.ediv_nonneg n0 (by omega)
      have hq1 : r.1 / r.2 ≤ r.1 := Int.ediv_le_self _ n0
      have ea : rd v.1 0 = esOne r.1 r.2 0 := by
        have := es_rd r.1 r.2 m 0 0 (by omega)
        rw [hes, hm, toNat_cast, ← hm]; exact this
      have eb : rd v.1 ((m - 1 : Nat) : Int) = esOne r.1 r.2 (m - 1) := by
        have := es_rd r.1 r.2 m 0 (m - 1) (by omega)
        rw [hes, hm, toNat_cast, ← hm, this, Nat.zero_add]
      have hfin : wrap64 (rd v.1 0 - rd v.1 ((m - 1 : Nat) : Int)) ≤ 1 := by
        rw [ea, eb, esOne, esOne, hd, w64 (x := r.1 / r.2) (by omega) (by omega), w64 (x := r.1 / r.2 + 1) (by omega) (by omega)]
        generalize r.1 / r.2 = q at *
        split <;> split <;> (rw [w64 (by omega) (by omega)]; omega)
      rw [decide_eq_true hfin]
      exact Ev.now _
    · exact Ev_ite_f h0 (Ev.now _)

end Go.Proofs.Ytlenplkbfapjnaa.Pure
