/- The pure statement of FnExactShiftForm: for every input that the row lets in, the law's Lean function answers true; no further condition. -/
import Derived.Test.YtkpidjmhdagkfaaQFnExactShiftFormx9
set_option linter.unusedVariables false
set_option linter.unusedSimpArgs false
namespace Go.Proofs.Ytkpidjmhdagkfaa.Pure
open Go.RowKit Go.Proofs.Ytkpidjmhdagkfaa.QFnExactShiftForm Go.Proofs.YtkpidjmhdagkfaaW.PrintWords Go.Proofs.YtkpidjmhdagkfaaW.PrintLast

theorem w64 {x : Int} (h0 : -9223372036854775808 ≤ x) (h1 : x ≤ 9223372036854775807) : wrap64 x = x := by unfold wrap64; omega
theorem wz : wrap64 0 = 0 := w64 (by omega) (by omega)
theorem w64_range (x : Int) : -9223372036854775808 ≤ wrap64 x ∧ wrap64 x ≤ 9223372036854775807 := by unfold wrap64; omega
theorem wf64 {x : Int} (h : (Lit.int .i64 x).wf = true) : -9223372036854775808 ≤ x ∧ x ≤ 9223372036854775807 := by
  have h' : (decide (IntKind.i64.min ≤ x) && decide (x ≤ IntKind.i64.max)) = true := h
  simp only [Bool.and_eq_true, decide_eq_true_eq] at h'
  exact h'
theorem wf8 {x : Int} (h : (Lit.int .u8 x).wf = true) : 0 ≤ x ∧ x ≤ 255 := by
  have h' : (decide (IntKind.u8.min ≤ x) && decide (x ≤ IntKind.u8.max)) = true := h
  simp only [Bool.and_eq_true, decide_eq_true_eq] at h'
  exact h'
theorem rd_get {xs : List Int} {i : Nat} (h : i < xs.length) : rd xs (i : Int) = xs[i] := by
  simp [rd, List.getD_eq_getElem?_getD, h]
theorem rd_nat (xs : List Int) (i : Nat) : rd xs (i : Int) = xs.getD i 0 := by simp [rd]
theorem rd_mem {xs : List Int} {i : Nat} (h : i < xs.length) : rd xs (i : Int) ∈ xs := by rw [rd_get h]; exact List.getElem_mem h
theorem rd_ext {xs ys : List Int} (hl : xs.length = ys.length) (h : ∀ i : Nat, i < xs.length → rd xs (i : Int) = rd ys (i : Int)) : xs = ys := by
  apply List.ext_getElem hl
  intro i h1 h2
  have := h i h1
  rwa [rd_get h1, rd_get h2] at this
theorem rd_set {xs : List Int} {i j : Nat} {v : Int} (hi : i < xs.length) : rd (xs.set i v) (j : Int) = if i = j then v else rd xs (j : Int) := by
  simp only [rd_nat, List.getD_eq_getElem?_getD, List.getElem?_set]
  by_cases h : i = j
  · subst h; simp [hi]
  · simp [h]
theorem rd_append_left {xs ys : List Int} {j : Nat} (h : j < xs.length) : rd (xs ++ ys) (j : Int) = rd xs (j : Int) := by
  simp only [rd_nat, List.getD_eq_getElem?_getD, List.getElem?_append_left h]
theorem rd_append_at {xs : List Int} {v : Int} : rd (xs ++ [v]) (xs.length : Int) = v := by
  simp [rd_nat, List.getD_eq_getElem?_getD]
theorem rd_take {xs : List Int} {i j : Nat} (h : j < i) : rd (xs.take i) (j : Int) = rd xs (j : Int) := by
  simp [rd_nat, List.getD_eq_getElem?_getD, List.getElem?_take, h]
theorem rd_drop {xs : List Int} {i j : Nat} : rd (xs.drop i) (j : Int) = rd xs ((i + j : Nat) : Int) := by
  simp only [rd_nat, List.getD_eq_getElem?_getD, List.getElem?_drop]
theorem toNat_cast (i : Nat) : ((i : Nat) : Int).toNat = i := Int.toNat_natCast i
theorem drop_cons {xs : List Int} {i : Nat} (h : i < xs.length) : xs.drop i = rd xs (i : Int) :: xs.drop (i + 1) := by
  rw [rd_get h]; exact List.drop_eq_getElem_cons h
theorem Ev_ite_t {α : Type} {c : Prop} [Decidable c] {f g : Nat → Option α} {r : α} (h : c) (k : Ev f r) : Ev (fun n => if c then f n else g n) r :=
  Ev.congr (fun _ => if_pos h) k
theorem Ev_ite_f {α : Type} {c : Prop} [Decidable c] {f g : Nat → Option α} {r : α} (h : ¬ c) (k : Ev g r) : Ev (fun n => if c then f n else g n) r :=
  Ev.congr (fun _ => if_neg h) k
theorem w64n (i : Nat) (h : i < 9223372036854775807) : wrap64 ((i : Int) + 1) = ((i + 1 : Nat) : Int) := by
  rw [w64 (by omega) (by omega)]; rfl
theorem wrap_add_wrap (a b : Int) : wrap64 (wrap64 a + b) = wrap64 (a + b) := by unfold wrap64; omega
theorem wrap_add_wrap' (a b : Int) : wrap64 (a + wrap64 b) = wrap64 (a + b) := by unfold wrap64; omega
theorem EvE_bind {α β : Type} {g : Nat → Option α} {f : Nat → α → Option β} {a : α} (h : Ev g a) (k : ∃ r, Ev (fun n => f n a) r) : ∃ r, Ev (fun n => (g n).bind (f n)) r := by
  obtain ⟨r, k⟩ := k
  exact ⟨r, Ev.bind h k⟩
theorem EvE_now {α : Type} (a : α) : ∃ r, Ev (fun _ : Nat => some a) r := ⟨a, Ev.now a⟩
theorem EvE_ite_t {α : Type} {c : Prop} [Decidable c] {f g : Nat → Option α} (h : c) (k : ∃ r, Ev f r) : ∃ r, Ev (fun n => if c then f n else g n) r := by
  obtain ⟨r, k⟩ := k
  exact ⟨r, Ev_ite_t h k⟩
theorem EvE_ite_f {α : Type} {c : Prop} [Decidable c] {f g : Nat → Option α} (h : ¬ c) (k : ∃ r, Ev g r) : ∃ r, Ev (fun n => if c then f n else g n) r := by
  obtain ⟨r, k⟩ := k
  exact ⟨r, Ev_ite_f h k⟩
theorem l01In_eq (n a b : Int) : spec_l01In.f n a b = some (decide (a ≤ n ∧ n ≤ b)) := by
  unfold spec_l01In.f
  by_cases h : n ≥ a
  · rw [if_pos h]; simp [show a ≤ n from h]
  · rw [if_neg h]; simp [show ¬ a ≤ n from h]
theorem inRange_eq (n a b : Int) : impl_inRange.f n a b = some (decide (a ≤ n ∧ n ≤ b)) := by
  unfold impl_inRange.f
  by_cases h : a ≤ n
  · rw [if_pos h]; simp [h]
  · rw [if_neg h]; simp [h]
theorem within_ev (l : List Int) (m lo hi : Int) (hl : l.length ≤ 35184372088832) (b : Bool) (hb : b = true ↔ (l.length : Int) ≤ m ∧ ∀ x ∈ l, lo ≤ x ∧ x ≤ hi) : Ev (fun k => spec_l01Within.f k l m lo hi) b := by
  have loop : ∀ (d i : Nat), i + d = l.length → ∀ b : Bool, (b = true ↔ (l.length : Int) ≤ m ∧ ∀ x ∈ l.drop i, lo ≤ x ∧ x ≤ hi) → Ev (fun k => spec_l01Within.l0 k l m lo hi (i : Int)) b := by
    intro d
    induction d with
    | zero =>
      intro i hi' b hb
      have e : b = decide ((l.length : Int) ≤ m) := by
        rw [Bool.eq_iff_iff, hb, decide_eq_true_iff, show l.drop i = [] from List.drop_of_length_le (by omega)]
        exact ⟨fun h => h.1, fun h => ⟨h, fun x hx => by simp at hx⟩⟩
      rw [e]
      exact Ev.step (f := fun _ => some (decide ((l.length : Int) ≤ m))) (fun k => by rw [spec_l01Within.l0, if_neg (by omega)]) (Ev.now _)
    | succ d ih =>
      intro i hi' b hb
      refine Ev.step (f := fun k => if decide (lo ≤ rd l (i : Int) ∧ rd l (i : Int) ≤ hi) = true then spec_l01Within.l0 k l m lo hi ((i + 1 : Nat) : Int) else some false) (fun k => by rw [spec_l01Within.l0, if_pos (by omega), if_pos (by omega), l01In_eq, w64n i (by omega)]; rfl) ?_
      rw [drop_cons (xs := l) (i := i) (by omega)] at hb
      simp only [List.mem_cons, forall_eq_or_imp] at hb
      by_cases h : lo ≤ rd l (i : Int) ∧ rd l (i : Int) ≤ hi
      · refine Ev_ite_t (decide_eq_true h) (ih (i + 1) (by omega) b ?_)
        rw [hb]
        exact ⟨fun x => ⟨x.1, x.2.2⟩, fun x => ⟨x.1, h, x.2⟩⟩
      · have e : b = false := by
          rw [Bool.eq_false_iff]; intro hbt
          exact h (hb.1 hbt).2.1
        rw [e]
        exact Ev_ite_f (by rw [decide_eq_true_iff]; exact h) (Ev.now _)
  have := loop l.length 0 (by omega) b (by rw [List.drop_zero]; exact hb)
  exact Ev.congr (fun k => rfl) this
theorem allIn_eq (l : List Int) (lo hi : Int) : impl_allIn.f l lo hi = some (decide (∀ x ∈ l, lo ≤ x ∧ x ≤ hi)) := by
  unfold impl_allIn.f
  congr 1
  rw [Bool.eq_iff_iff, decide_eq_true_iff, Bool.not_eq_true', List.any_eq_false]
  unfold allIn_out
  constructor
  · intro h x hx; simpa using h x hx
  · intro h x hx; simpa using h x hx
theorem l01Has_ev (l : List Int) (x : Int) (hl : l.length ≤ 35184372088832) : Ev (fun k => spec_l01Has.f k l x) (decide (x ∈ l)) := by
  have loop : ∀ (d i : Nat), i + d = l.length → Ev (fun k => spec_l01Has.l0 k l x (i : Int)) (decide (x ∈ l.drop i)) := by
    intro d
    induction d with
    | zero =>
      intro i hi
      have e : decide (x ∈ l.drop i) = false := by rw [List.drop_of_length_le (by omega)]; simp
      rw [e]
      exact Ev.step (f := fun _ => some false) (fun k => by rw [spec_l01Has.l0, if_neg (by omega)]) (Ev.now _)
    | succ d ih =>
      intro i hi
      by_cases e : rd l (i : Int) = x
      · have e1 : decide (x ∈ l.drop i) = true := by rw [drop_cons (by omega)]; simp [e]
        rw [e1]
        exact Ev.step (f := fun _ => some true) (fun k => by rw [spec_l01Has.l0, if_pos (by omega), if_pos (by omega), if_pos e]) (Ev.now _)
      · have e1 : decide (x ∈ l.drop i) = decide (x ∈ l.drop (i + 1)) := by rw [drop_cons (by omega)]; simp [Ne.symm e]
        rw [e1]
        exact Ev.step (fun k => by rw [spec_l01Has.l0, if_pos (by omega), if_pos (by omega), if_neg e, w64n i (by omega)]) (ih (i + 1) (by omega))
  have := loop l.length 0 (by omega)
  rw [List.drop_zero] at this
  exact Ev.congr (fun k => rfl) this
theorem side0 (a : Int) : (∃ j : Nat, j ≤ 3 ∧ a = ((2 ^ j : Nat) : Int) ∧ spec_l04Power.f a = some ((j : Int), true) ∧ impl_isSide.f a = some true) ∨ (spec_l04Power.f a = some (0, false) ∧ impl_isSide.f a = some false) := by
  by_cases h1 : a = 1
  · subst h1; exact .inl ⟨0, by decide, by decide, by decide +kernel, by decide +kernel⟩
  by_cases h2 : a = 2
  · subst h2; exact .inl ⟨1, by decide, by decide, by decide +kernel, by decide +kernel⟩
  by_cases h4 : a = 4
  · subst h4; exact .inl ⟨2, by decide, by decide, by decide +kernel, by decide +kernel⟩
  by_cases h8 : a = 8
  · subst h8; exact .inl ⟨3, by decide, by decide, by decide +kernel, by decide +kernel⟩
  · refine .inr ⟨?_, ?_⟩
    · unfold spec_l04Power.f
      rw [if_neg h1, if_neg h2, if_neg h4, if_neg h8]
    · unfold impl_isSide.f
      rw [if_neg h1, if_neg h2, if_neg h4, show (a == 8) = false from beq_false_of_ne h8]
theorem sheet0 (a b : Int) : (∃ i j : Nat, i ≤ 3 ∧ j ≤ 3 ∧ a = ((2 ^ i : Nat) : Int) ∧ b = ((2 ^ j : Nat) : Int) ∧ spec_l04Sheet.f a b = some true ∧ impl_isSheet.f a b = some true) ∨ (spec_l04Sheet.f a b = some false ∧ impl_isSheet.f a b = some false) := by
  unfold spec_l04Sheet.f impl_isSheet.f
  rcases side0 a with ⟨i, i1, i2, i3, i4⟩ | ⟨i3, i4⟩
  · rcases side0 b with ⟨j, j1, j2, j3, j4⟩ | ⟨j3, j4⟩
    · exact .inl ⟨i, j, i1, j1, i2, j2, by rw [i3, j3]; rfl, by rw [i4, j4]; rfl⟩
    · exact .inr ⟨by rw [i3, j3]; rfl, by rw [i4, j4]; rfl⟩
  · refine .inr ⟨?_, by rw [i4]; rfl⟩
    rw [i3]
    rcases side0 b with ⟨j, j1, j2, j3, j4⟩ | ⟨j3, j4⟩
    · rw [j3]; rfl
    · rw [j3]; rfl
theorem sheet0_ok {i j : Nat} (hi : i ≤ 3) (hj : j ≤ 3) : impl_isSheet.f ((2 ^ i : Nat) : Int) ((2 ^ j : Nat) : Int) = some true := by
  have h : ∀ i j : Fin 4, impl_isSheet.f ((2 ^ i.val : Nat) : Int) ((2 ^ j.val : Nat) : Int) = some true := by decide +kernel
  exact h ⟨i, by omega⟩ ⟨j, by omega⟩
theorem ev_unique {α : Type} {g : Nat → Option α} {a b : α} (ha : Ev g a) (hb : Ev g b) : a = b := by
  obtain ⟨n, hn⟩ := ha
  obtain ⟨m, hm⟩ := hb
  exact Option.some.inj ((hn (max n m) (Nat.le_max_left _ _)).symm.trans (hm (max n m) (Nat.le_max_right _ _)))
theorem concat2_ev {b c : List Int} (hb : b.length ≤ 1000) (hc : c.length ≤ 1000) : Ev (fun k => slices_Concat_int64_int64.f k [b, c]) (b ++ c) := by
  have r0 : rd_L1 [b, c] 0 = b := rfl
  have r1 : rd_L1 [b, c] 1 = c := rfl
  have l2 : (([b, c] : List (List Int)).length : Int) = 2 := rfl
  have g0 : (0 : Int) < (([b, c] : List (List Int)).length : Int) := by rw [l2]; omega
  have g1 : (1 : Int) < (([b, c] : List (List Int)).length : Int) := by rw [l2]; omega
  have w1 : wrap64 (0 + 1) = 1 := by rw [w64 (by omega) (by omega)]; rfl
  have w2 : wrap64 (1 + 1) = 2 := by rw [w64 (by omega) (by omega)]; rfl
  have s1 : wrap64 (0 + (b.length : Int)) = (b.length : Int) := by rw [w64 (by omega) (by omega)]; omega
  have s2 : wrap64 ((b.length : Int) + (c.length : Int)) = ((b.length + c.length : Nat) : Int) := by rw [w64 (by omega) (by omega)]; omega
  have hg : slices_Grow_int64_int64.f ([] : List Int) ((b.length + c.length : Nat) : Int) = some [] := by
    unfold slices_Grow_int64_int64.f
    rw [if_pos rfl, if_pos (by omega), if_pos (by omega)]
  have a1 : ([] : List Int).length + b.length < 17592186044416 := by rw [List.length_nil]; omega
  have a2 : b.length + c.length < 17592186044416 := by omega
  generalize ([b, c] : List (List Int)) = G at r0 r1 l2 g0 g1
  refine Ev.step (f := fun k => slices_Concat_int64_int64.l0 k G (b.length : Int) G 2 1) (fun k => ?_) ?_
  · show slices_Concat_int64_int64.l0 (k + 1) G 0 G (G.length : Int) 0 = _
    rw [l2, slices_Concat_int64_int64.l0, r0, s1, w1, if_pos (by decide), if_pos (by decide), if_pos g0, if_neg (by omega)]
  refine Ev.step (f := fun k => slices_Concat_int64_int64.l0 k G ((b.length + c.length : Nat) : Int) G 2 2) (fun k => ?_) ?_
  · rw [slices_Concat_int64_int64.l0, r1, s2, w2, if_pos (by decide), if_pos (by decide), if_pos g1, if_neg (by omega)]
  refine Ev.step (f := fun k => slices_Concat_int64_int64.l1 k [] G 2 0) (fun k => ?_) ?_
  · rw [slices_Concat_int64_int64.l0, if_neg (by decide), hg, l2]; rfl
  refine Ev.step (f := fun k => slices_Concat_int64_int64.l1 k b G 2 1) (fun k => ?_) ?_
  · rw [slices_Concat_int64_int64.l1, r0, w1, if_pos (by decide), if_pos (by decide), if_pos g0, if_pos a1, List.nil_append]
  refine Ev.step (f := fun k => slices_Concat_int64_int64.l1 k (b ++ c) G 2 2) (fun k => ?_) ?_
  · rw [slices_Concat_int64_int64.l1, r1, w2, if_pos (by decide), if_pos (by decide), if_pos g1, if_pos a2]
  exact Ev.step (f := fun _ => some (b ++ c)) (fun k => by rw [slices_Concat_int64_int64.l1, if_neg (by decide)]) (Ev.now _)
/-- The pages of a form: they are m numbers that follow one another from first on. -/
def Run (all : List Int) (first : Int) : Prop := (∀ x ∈ all, first ≤ x ∧ x ≤ first + (all.length : Int) - 1) ∧ all.Nodup
theorem sortedAll (l : List Int) : (l.mergeSort (fun x y => decide (x ≤ y))).Pairwise (fun x y => x ≤ y) := by
  have h := List.pairwise_mergeSort (le := fun x y : Int => decide (x ≤ y)) (fun a b c h1 h2 => by simp only [decide_eq_true_iff] at *; omega) (fun a b => by simp only [Bool.or_eq_true, decide_eq_true_iff]; omega) l
  exact h.imp (fun h => by simpa using h)
theorem run_sorted {all s : List Int} {first : Int} (hp : s.Perm all) (hs : s.Pairwise (fun x y => x ≤ y)) (h : Run all first) : ∀ i (hi : i < s.length), s[i] = first + (i : Int) := by
  have hn : s.Nodup := hp.nodup_iff.2 h.2
  have hl : s.length = all.length := hp.length_eq
  have hb : ∀ x ∈ s, first ≤ x ∧ x ≤ first + (s.length : Int) - 1 := fun x hx => by rw [hl]; exact h.1 x (hp.mem_iff.1 hx)
  have hlt : s.Pairwise (fun x y => x < y) := by
    have := hs.and hn
    exact this.imp (fun ⟨a, b⟩ => by omega)
  have step : ∀ i (hi : i + 1 < s.length), s[i] + 1 ≤ s[i + 1] := fun i hi => by
    have := List.pairwise_iff_getElem.1 hlt i (i + 1) (by omega) hi (by omega)
    omega
  have low : ∀ i (hi : i < s.length), first + (i : Int) ≤ s[i] := by
    intro i
    induction i with
    | zero => intro hi; have := (hb _ (List.getElem_mem hi)).1; omega
    | succ i ih => intro hi; have := ih (by omega); have := step i hi; omega
  have up : ∀ d i (hi : i < s.length), i + d + 1 = s.length → s[i] ≤ first + (i : Int) := by
    intro d
    induction d with
    | zero => intro i hi he; have := (hb _ (List.getElem_mem hi)).2; omega
    | succ d ih => intro i hi he; have := ih (i + 1) (by omega) (by omega); have := step i (by omega); omega
  intro i hi
  have h1 := low i hi
  have h2 := up (s.length - 1 - i) i hi (by omega)
  omega
theorem sorted_run {all s : List Int} {first : Int} (hp : s.Perm all) (h : ∀ i (hi : i < s.length), s[i] = first + (i : Int)) : Run all first := by
  have hl : s.length = all.length := hp.length_eq
  refine ⟨fun x hx => ?_, ?_⟩
  · obtain ⟨i, hi, e⟩ := List.getElem_of_mem (hp.mem_iff.2 hx)
    have := h i hi
    omega
  · refine hp.nodup_iff.1 ?_
    rw [List.nodup_iff_pairwise_ne]
    refine List.pairwise_iff_getElem.2 (fun i j hi hj hij => ?_)
    rw [h i hi, h j hj]
    omega
theorem mn_le (a b : Int) : mn a b ≤ a ∧ mn a b ≤ b ∧ (mn a b = a ∨ mn a b = b) := by unfold mn; split <;> omega
theorem least_ev (a b : Int) (F B H : List Int) (hl : F.length = B.length) (h0 : 0 < F.length) (h1 : F.length ≤ 1000) : ∃ m, Ev (fun k => spec_l05Least.f k a b F B H) m ∧ m ∈ F ++ B ∧ ∀ x ∈ F ++ B, m ≤ x := by
  have loop : ∀ (d i : Nat), i + d = F.length → ∀ m : Int, m ∈ F ++ B → (∀ j (hj : j < F.length), j < i → m ≤ F[j] ∧ m ≤ B[j]) → ∃ r, Ev (fun k => spec_l05Least.l0 k m (i : Int) a b F B H) r ∧ r ∈ F ++ B ∧ ∀ j (hj : j < F.length), r ≤ F[j] ∧ r ≤ B[j] := by
    intro d
    induction d with
    | zero =>
      intro i hi m hm hj
      exact ⟨m, Ev.step (f := fun _ => some m) (fun k => by rw [spec_l05Least.l0, if_neg (by omega)]) (Ev.now _), hm, fun j hj' => hj j hj' (by omega)⟩
    | succ d ih =>
      intro i hi m hm hj
      have hF : i < F.length := by omega
      have hB : i < B.length := by omega
      obtain ⟨p1, p2, p3⟩ := mn_le F[i] B[i]
      obtain ⟨q1, q2, q3⟩ := mn_le m (mn F[i] B[i])
      obtain ⟨r, r1, r2, r3⟩ := ih (i + 1) (by omega) (mn m (mn F[i] B[i])) (by
        rcases q3 with e | e
        · rw [e]; exact hm
        · rw [e]
          rcases p3 with e | e
          · rw [e]; exact List.mem_append.2 (.inl (List.getElem_mem hF))
          · rw [e]; exact List.mem_append.2 (.inr (List.getElem_mem hB))) (fun j hj' hji => by
        by_cases e : j = i
        · subst e; omega
        · have := hj j hj' (by omega); omega)
      refine ⟨r, Ev.step (fun k => ?_) r1, r2, r3⟩
      rw [spec_l05Least.l0, if_pos (by omega), if_pos (by omega), if_pos (by omega), rd_get hF, rd_get hB, w64n i (by omega)]
  have e0 : rd F (0 : Int) = F[0] := rd_get (i := 0) h0
  obtain ⟨r, r1, r2, r3⟩ := loop F.length 0 (by omega) F[0] (List.mem_append.2 (.inl (List.getElem_mem h0))) (fun j _ hj => by omega)
  refine ⟨r, ?_, r2, fun x hx => ?_⟩
  · unfold spec_l05Least.f
    refine Ev_ite_t (by omega) ?_
    rw [e0]
    exact r1
  · rcases List.mem_append.1 hx with hx | hx
    · obtain ⟨j, hj, e⟩ := List.getElem_of_mem hx
      have := (r3 j hj).1
      omega
    · obtain ⟨j, hj, e⟩ := List.getElem_of_mem hx
      have := (r3 j (by omega)).2
      omega
theorem specForm_loop (n : Int) (all : List Int) (first : Int) (hl : all.length ≤ 1000) : ∀ (d i : Nat), i + d = all.length → ∃ v : Bool, Ev (fun k => spec_IsForm.l0 k n all first (i : Int)) v ∧ (v = true ↔ (∀ j (hj : j < all.length), i ≤ j → first ≤ all[j] ∧ all[j] ≤ wrap64 (wrap64 (first + wrap64 (2 * n)) - 1) ∧ all[j] ∉ all.take j) ∧ 1 ≤ first ∧ first ≤ 1000000000) := by
  intro d
  induction d with
  | zero =>
    intro i hi
    refine ⟨decide (1 ≤ first ∧ first ≤ 1000000000), ?_, ?_⟩
    · by_cases h1 : first ≥ 1
      · refine Ev.step (f := fun _ => some (decide (first ≤ 1000000000))) (fun k => by rw [spec_IsForm.l0, if_neg (by omega), if_pos h1]) ?_
        rw [show decide (1 ≤ first ∧ first ≤ 1000000000) = decide (first ≤ 1000000000) by simp only [decide_eq_decide]; omega]
        exact Ev.now _
      · refine Ev.step (f := fun _ => some false) (fun k => by rw [spec_IsForm.l0, if_neg (by omega), if_neg h1]) ?_
        rw [decide_eq_false (by omega)]
        exact Ev.now _
    · rw [decide_eq_true_iff]
      exact ⟨fun h => ⟨fun j hj hij => by omega, h⟩, fun h => h.2⟩
  | succ d ih =>
    intro i hi
    have hil : i < all.length := by omega
    obtain ⟨v, v1, v2⟩ := ih (i + 1) (by omega)
    have hh := l01Has_ev (all.take i) all[i] (by rw [List.length_take]; omega)
    by_cases c1 : first ≤ all[i] ∧ all[i] ≤ wrap64 (wrap64 (first + wrap64 (2 * n)) - 1)
    · by_cases c2 : all[i] ∈ all.take i
      · refine ⟨false, ?_, ?_⟩
        · refine Ev.step (fun k => by rw [spec_IsForm.l0, if_pos (by omega), if_pos (by omega), rd_get hil, l01In_eq]) ?_
          refine Ev.bind (Ev.now _) (Ev_ite_t (decide_eq_true c1) (Ev_ite_t (by omega) ?_))
          rw [Int.toNat_natCast]
          exact Ev.bind hh (Ev_ite_t (decide_eq_true c2) (Ev.now _))
        · exact ⟨(fun z => by cases z), fun h => ((h.1 i hil (Nat.le_refl _)).2.2 c2).elim⟩
      · refine ⟨v, ?_, ?_⟩
        · refine Ev.step (fun k => by rw [spec_IsForm.l0, if_pos (by omega), if_pos (by omega), rd_get hil, l01In_eq]) ?_
          refine Ev.bind (Ev.now _) (Ev_ite_t (decide_eq_true c1) (Ev_ite_t (by omega) ?_))
          rw [Int.toNat_natCast]
          refine Ev.bind hh (Ev_ite_f (by simpa using c2) ?_)
          rw [w64n i (by omega)]
          exact v1
        · rw [v2]
          constructor
          · rintro ⟨g, h⟩
            refine ⟨fun j hj hij => ?_, h⟩
            by_cases e : j = i
            · subst e; exact ⟨c1.1, c1.2, c2⟩
            · exact g j hj (by omega)
          · rintro ⟨g, h⟩
            exact ⟨fun j hj hij => g j hj (by omega), h⟩
    · refine ⟨false, ?_, ?_⟩
      · refine Ev.step (fun k => by rw [spec_IsForm.l0, if_pos (by omega), if_pos (by omega), rd_get hil, l01In_eq]) ?_
        exact Ev.bind (Ev.now _) (Ev_ite_f (by simpa using c1) (Ev.now _))
      · exact ⟨(fun z => by cases z), fun h => (c1 ⟨(h.1 i hil (Nat.le_refl _)).1, (h.1 i hil (Nat.le_refl _)).2.1⟩).elim⟩
theorem implForm_loop (s : List Int) (hl : s.length ≤ 1000) (h0 : 0 < s.length) : ∀ (d i : Nat), i + d = s.length → ∃ v : Bool, Ev (fun k => impl_IsForm.l0 k s s (s.length : Int) (i : Int)) v ∧ (v = true ↔ ∀ j (hj : j < s.length), i ≤ j → (1 ≤ s[0] ∧ s[0] ≤ 1000000000) ∧ s[j] = wrap64 (s[0] + (j : Int))) := by
  intro d
  have e0 : rd s (0 : Int) = s[0] := rd_get (i := 0) h0
  induction d with
  | zero =>
    intro i hi
    exact ⟨true, Ev.step (f := fun _ => some true) (fun k => by rw [impl_IsForm.l0, if_neg (by omega)]) (Ev.now _), fun _ j hj hij => by omega, fun _ => rfl⟩
  | succ d ih =>
    intro i hi
    have hil : i < s.length := by omega
    obtain ⟨v, v1, v2⟩ := ih (i + 1) (by omega)
    by_cases c1 : 1 ≤ s[0] ∧ s[0] ≤ 1000000000
    · by_cases c2 : s[i] = wrap64 (s[0] + (i : Int))
      · refine ⟨v, ?_, ?_⟩
        · refine Ev.step (fun k => by rw [impl_IsForm.l0, if_pos (by omega), if_pos (by omega), if_pos (by omega), if_pos (by omega), e0, inRange_eq, rd_get hil]) ?_
          refine Ev.bind (Ev.now _) (Ev_ite_t (decide_eq_true c1) (Ev_ite_t c2 ?_))
          rw [w64n i (by omega)]
          exact v1
        · rw [v2]
          constructor
          · intro g j hj hij
            by_cases e : j = i
            · subst e; exact ⟨c1, c2⟩
            · exact g j hj (by omega)
          · intro g j hj hij
            exact g j hj (by omega)
      · refine ⟨false, ?_, ?_⟩
        · refine Ev.step (fun k => by rw [impl_IsForm.l0, if_pos (by omega), if_pos (by omega), if_pos (by omega), if_pos (by omega), e0, inRange_eq, rd_get hil]) ?_
          exact Ev.bind (Ev.now _) (Ev_ite_t (decide_eq_true c1) (Ev_ite_f c2 (Ev.now _)))
        · exact ⟨(fun z => by cases z), fun g => (c2 (g i hil (Nat.le_refl _)).2).elim⟩
    · refine ⟨false, ?_, ?_⟩
      · refine Ev.step (fun k => by rw [impl_IsForm.l0, if_pos (by omega), if_pos (by omega), if_pos (by omega), if_pos (by omega), e0, inRange_eq, rd_get hil]) ?_
        exact Ev.bind (Ev.now _) (Ev_ite_f (by simpa using c1) (Ev.now _))
      · exact ⟨(fun z => by cases z), fun g => (c1 (g i hil (Nat.le_refl _)).1).elim⟩
def FormOk (a b : Int) (F B H : List Int) : Prop := ∃ i j : Nat, i ≤ 3 ∧ j ≤ 3 ∧ a = ((2 ^ i : Nat) : Int) ∧ b = ((2 ^ j : Nat) : Int) ∧ F.length = 2 ^ (i + j) ∧ B.length = 2 ^ (i + j) ∧ H.length = 2 ^ (i + j) ∧ (∀ x ∈ H, 0 ≤ x ∧ x ≤ 1) ∧ ∃ first, 1 ≤ first ∧ first ≤ 1000000000 ∧ first ∈ F ++ B ∧ Run (F ++ B) first
theorem p2inj0 {i j : Nat} (h : ((2 ^ i : Nat) : Int) = ((2 ^ j : Nat) : Int)) : i = j := (Nat.pow_right_inj (by omega : 1 < 2)).1 (Int.ofNat.inj h)
theorem nodup_take (l : List Int) : l.Nodup ↔ ∀ j (hj : j < l.length), l[j] ∉ l.take j := by
  rw [List.nodup_iff_pairwise_ne, List.pairwise_iff_getElem]
  constructor
  · intro h j hj hm
    obtain ⟨i, hi, e⟩ := List.getElem_of_mem hm
    rw [List.length_take] at hi
    rw [List.getElem_take] at e
    exact h i j (by omega) hj (by omega) e
  · intro h i j hi hj hij e
    refine h j hj ?_
    rw [← e]
    have : (l.take j)[i]'(by rw [List.length_take]; omega) = l[i] := List.getElem_take
    rw [← this]
    exact List.getElem_mem _
theorem pages_two (F B : List Int) (a b : Int) (H : List Int) (n : Nat) (hF : F.length = n) (hB : B.length = n) (h0 : 0 < n) (h1 : n ≤ 64) : ∃ v : Bool, Ev (fun k => spec_IsForm.j0 k (n : Int) false a b F B H) v ∧ Ev (fun k => impl_IsForm.j0 k false a b F B H) v ∧ (v = true ↔ ∃ first, 1 ≤ first ∧ first ≤ 1000000000 ∧ first ∈ F ++ B ∧ Run (F ++ B) first) := by
  have hlen : (F ++ B).length = 2 * n := by rw [List.length_append]; omega
  obtain ⟨m, m1, m2, m3⟩ := least_ev a b F B H (by omega) (by omega) (by omega)
  obtain ⟨v, v1, v2⟩ := specForm_loop (n : Int) (F ++ B) m (by omega) (F ++ B).length 0 (by omega)
  have hp : ((F ++ B).mergeSort (fun x y => decide (x ≤ y))).Perm (F ++ B) := List.mergeSort_perm _ _
  have hs := sortedAll (F ++ B)
  have hsl : ((F ++ B).mergeSort (fun x y => decide (x ≤ y))).length = 2 * n := by rw [hp.length_eq, hlen]
  obtain ⟨s, hse⟩ : ∃ s, (F ++ B).mergeSort (fun x y => decide (x ≤ y)) = s := ⟨_, rfl⟩
  rw [hse] at hp hs hsl
  obtain ⟨u, u1, u2⟩ := implForm_loop s (by omega) (by omega) s.length 0 (by omega)
  have hs0 : s[0]'(by omega) = m := by
    have g1 := m3 _ (hp.mem_iff.1 (List.getElem_mem (l := s) (n := 0) (by omega)))
    obtain ⟨q, hq, e⟩ := List.getElem_of_mem (hp.mem_iff.2 m2)
    have g2 : s[0]'(by omega) ≤ s[q] := by
      rcases Nat.eq_zero_or_pos q with z | z
      · subst z; omega
      · exact List.pairwise_iff_getElem.1 hs 0 q (by omega) hq z
    omega
  have main : (1 ≤ m ∧ m ≤ 1000000000 ∧ Run (F ++ B) m) ↔ ∃ first, 1 ≤ first ∧ first ≤ 1000000000 ∧ first ∈ F ++ B ∧ Run (F ++ B) first := by
    constructor
    · rintro ⟨x, y, z⟩; exact ⟨m, x, y, m2, z⟩
    · rintro ⟨f, x, y, z, r⟩
      have g1 := m3 f z
      have g2 := (r.1 m m2).1
      obtain rfl : f = m := by omega
      exact ⟨x, y, r⟩
  have hv : v = true ↔ (1 ≤ m ∧ m ≤ 1000000000 ∧ Run (F ++ B) m) := by
    rw [v2]
    have hw : 1 ≤ m → m ≤ 1000000000 → wrap64 (wrap64 (m + wrap64 (2 * (n : Int))) - 1) = m + (((F ++ B).length : Nat) : Int) - 1 := fun g1 g2 => by
      rw [w64 (x := 2 * (n : Int)) (by omega) (by omega), w64 (x := m + 2 * (n : Int)) (by omega) (by omega), w64 (by omega) (by omega), hlen]
      omega
    constructor
    · rintro ⟨g, g1, g2⟩
      rw [hw g1 g2] at g
      refine ⟨g1, g2, fun x hx => ?_, (nodup_take _).2 (fun j hj => (g j hj (Nat.zero_le _)).2.2)⟩
      obtain ⟨j, hj, e⟩ := List.getElem_of_mem hx
      have := g j hj (Nat.zero_le _)
      exact ⟨by omega, by omega⟩
    · rintro ⟨g1, g2, g3, g4⟩
      rw [hw g1 g2]
      exact ⟨fun j hj _ => ⟨(g3 _ (List.getElem_mem hj)).1, (g3 _ (List.getElem_mem hj)).2, (nodup_take _).1 g4 j hj⟩, g1, g2⟩
  have hu : u = true ↔ (1 ≤ m ∧ m ≤ 1000000000 ∧ Run (F ++ B) m) := by
    rw [u2]
    constructor
    · intro g
      have g0 := (g 0 (by omega) (Nat.le_refl _)).1
      rw [hs0] at g0
      refine ⟨g0.1, g0.2, sorted_run hp (fun j hj => ?_)⟩
      have := (g j hj (Nat.zero_le _)).2
      rw [hs0, w64 (by omega) (by omega)] at this
      exact this
    · rintro ⟨g1, g2, g3⟩ j hj _
      rw [hs0]
      exact ⟨⟨g1, g2⟩, by rw [run_sorted hp hs g3 j hj, w64 (by omega) (by omega)]⟩
  have huv : u = v := Bool.eq_iff_iff.2 (hu.trans hv.symm)
  subst huv
  refine ⟨u, ?_, ?_, hv.trans main⟩
  · have ho : spec_l01Own.f F = some F := by
      unfold spec_l01Own.f
      simp only [Option.bind_some, List.length_nil, List.nil_append]
      rw [if_pos (by omega)]
    refine Ev.step (fun k => by rw [spec_IsForm.j0, if_neg (by simp), ho]) ?_
    exact Ev.bind (Ev.now _) (Ev_ite_t (by omega) (Ev.bind m1 v1))
  · have hso : slices_Sorted_int64.f (F ++ B) = some s := by
      unfold slices_Sorted_int64.f
      rw [if_pos (by omega), if_pos (by omega), hse]
    refine Ev.step (fun k => by rw [impl_IsForm.j0, if_neg (by simp)]) ?_
    refine Ev.bind (concat2_ev (by omega) (by omega)) ?_
    rw [hso]
    exact Ev.bind (Ev.now _) u1
theorem isForm_two (a b : Int) (F B H : List Int) (hH : H.length ≤ 1048576) : ∃ v : Bool, Ev (fun k => spec_IsForm.f k a b F B H) v ∧ Ev (fun k => impl_IsForm.f k a b F B H) v ∧ (v = true ↔ FormOk a b F B H) := by
  have len : ∀ l : List Int, impl_length_int64.f l = some (l.length : Int) := fun l => rfl
  unfold spec_IsForm.f impl_IsForm.f
  rcases sheet0 a b with ⟨i, j, i1, j1, ha, hb, s1, s2⟩ | ⟨s1, s2⟩
  · have h64 : 2 ^ (i + j) ≤ 64 := Nat.le_trans (Nat.pow_le_pow_right (by omega) (show i + j ≤ 6 by omega)) (by decide)
    have hpos : 0 < 2 ^ (i + j) := Nat.pow_pos (by omega)
    have hab : a * b = ((2 ^ (i + j) : Nat) : Int) := by rw [ha, hb, Nat.pow_add]; exact (Int.natCast_mul _ _).symm
    have hok : FormOk a b F B H → F.length = 2 ^ (i + j) ∧ B.length = 2 ^ (i + j) ∧ H.length = 2 ^ (i + j) ∧ (∀ x ∈ H, 0 ≤ x ∧ x ≤ 1) ∧ ∃ first, 1 ≤ first ∧ first ≤ 1000000000 ∧ first ∈ F ++ B ∧ Run (F ++ B) first := by
      rintro ⟨i', j', _, _, ha', hb', h1, h2, h3, h4, h5⟩
      obtain rfl := p2inj0 (ha.symm.trans ha')
      obtain rfl := p2inj0 (hb.symm.trans hb')
      exact ⟨h1, h2, h3, h4, h5⟩
    have hko : F.length = 2 ^ (i + j) → B.length = 2 ^ (i + j) → H.length = 2 ^ (i + j) → (∀ x ∈ H, 0 ≤ x ∧ x ≤ 1) → (∃ first, 1 ≤ first ∧ first ≤ 1000000000 ∧ first ∈ F ++ B ∧ Run (F ++ B) first) → FormOk a b F B H := fun h1 h2 h3 h4 h5 => ⟨i, j, i1, j1, ha, hb, h1, h2, h3, h4, h5⟩
    generalize 2 ^ (i + j) = n at h64 hpos hab hok hko
    have hw : wrap64 (a * b) = (n : Int) := by rw [hab]; exact w64 (by omega) (by omega)
    rw [s1, s2, hw, len, len, len]
    have sb : Ev (fun k => spec_IsForm.j0 k (n : Int) true a b F B H) false := Ev.step (f := fun _ => some false) (fun k => by rw [spec_IsForm.j0, if_pos rfl]) (Ev.now _)
    have ib : Ev (fun k => impl_IsForm.j0 k true a b F B H) false := Ev.step (f := fun _ => some false) (fun k => by rw [impl_IsForm.j0, if_pos rfl]) (Ev.now _)
    by_cases c1 : (F.length : Int) = (n : Int)
    · by_cases c2 : (B.length : Int) = (n : Int)
      · by_cases c3 : (H.length : Int) = (n : Int)
        · have hwi := within_ev H 64 0 1 (by omega) (decide (∀ x ∈ H, 0 ≤ x ∧ x ≤ 1)) (by rw [decide_eq_true_iff]; exact ⟨fun h => ⟨by omega, h⟩, fun h => h.2⟩)
          rw [allIn_eq]
          by_cases c4 : ∀ x ∈ H, 0 ≤ x ∧ x ≤ 1
          · rw [decide_eq_true c4] at hwi ⊢
            obtain ⟨v, v1, v2, v3⟩ := pages_two F B a b H n (by omega) (by omega) hpos h64
            refine ⟨v, Ev.bind (Ev.now _) (Ev_ite_t rfl (Ev_ite_t c1 (Ev_ite_t c2 (Ev_ite_t c3 (Ev.bind hwi v1))))), Ev.bind (Ev.now _) (Ev_ite_t rfl (Ev.bind (Ev.now _) (Ev_ite_t c1 (Ev.bind (Ev.now _) (Ev_ite_t c2 (Ev.bind (Ev.now _) (Ev_ite_t c3 (Ev.bind (Ev.now _) v2)))))))), ?_⟩
            rw [v3]
            exact ⟨fun h => hko (by omega) (by omega) (by omega) c4 h, fun h => (hok h).2.2.2.2⟩
          · rw [decide_eq_false c4] at hwi ⊢
            exact ⟨false, Ev.bind (Ev.now _) (Ev_ite_t rfl (Ev_ite_t c1 (Ev_ite_t c2 (Ev_ite_t c3 (Ev.bind hwi sb))))), Ev.bind (Ev.now _) (Ev_ite_t rfl (Ev.bind (Ev.now _) (Ev_ite_t c1 (Ev.bind (Ev.now _) (Ev_ite_t c2 (Ev.bind (Ev.now _) (Ev_ite_t c3 (Ev.bind (Ev.now _) ib)))))))), (fun z => by cases z), fun h => (c4 (hok h).2.2.2.1).elim⟩
        · exact ⟨false, Ev.bind (Ev.now _) (Ev_ite_t rfl (Ev_ite_t c1 (Ev_ite_t c2 (Ev_ite_f c3 sb)))), Ev.bind (Ev.now _) (Ev_ite_t rfl (Ev.bind (Ev.now _) (Ev_ite_t c1 (Ev.bind (Ev.now _) (Ev_ite_t c2 (Ev.bind (Ev.now _) (Ev_ite_f c3 ib))))))), (fun z => by cases z), fun h => (c3 (by rw [(hok h).2.2.1])).elim⟩
      · exact ⟨false, Ev.bind (Ev.now _) (Ev_ite_t rfl (Ev_ite_t c1 (Ev_ite_f c2 sb))), Ev.bind (Ev.now _) (Ev_ite_t rfl (Ev.bind (Ev.now _) (Ev_ite_t c1 (Ev.bind (Ev.now _) (Ev_ite_f c2 ib))))), (fun z => by cases z), fun h => (c2 (by rw [(hok h).2.1])).elim⟩
    · exact ⟨false, Ev.bind (Ev.now _) (Ev_ite_t rfl (Ev_ite_f c1 sb)), Ev.bind (Ev.now _) (Ev_ite_t rfl (Ev.bind (Ev.now _) (Ev_ite_f c1 ib))), (fun z => by cases z), fun h => (c1 (by rw [(hok h).1])).elim⟩
  · rw [s1, s2]
    have sb : Ev (fun k => spec_IsForm.j0 k (wrap64 (a * b)) true a b F B H) false := Ev.step (f := fun _ => some false) (fun k => by rw [spec_IsForm.j0, if_pos rfl]) (Ev.now _)
    refine ⟨false, Ev.bind (Ev.now _) (Ev_ite_f (by simp) sb), Ev.bind (Ev.now _) (Ev_ite_f (by simp) (Ev.now _)), (fun z => by cases z), ?_⟩
    rintro ⟨i, j, i1, j1, ha, hb, _⟩
    rw [ha, hb, sheet0_ok i1 j1] at s2
    cases s2
theorem take_map_succ (l : List Int) (g : Int → Int) (i : Nat) (h : i < l.length) : (l.take (i + 1)).map g = (l.take i).map g ++ [g l[i]] := by
  rw [List.take_add_one, List.getElem?_eq_getElem h, List.map_append]
  rfl
theorem shift_ev (l : List Int) (by_ : Int) (hl : l.length ≤ 1000000) : Ev (fun k => spec_l05Shift.f k l by_) (l.map (fun x => wrap64 (x + by_))) ∧ Ev (fun k => impl_shifted.f k l by_) (l.map (fun x => wrap64 (x + by_))) := by
  have loop : ∀ (d i : Nat), i + d = l.length → Ev (fun k => spec_l05Shift.l0 k l by_ ((l.take i).map (fun x => wrap64 (x + by_))) (i : Int)) (l.map (fun x => wrap64 (x + by_))) ∧ Ev (fun k => impl_shifted.l0 k by_ ((l.take i).map (fun x => wrap64 (x + by_))) l (l.length : Int) (i : Int)) (l.map (fun x => wrap64 (x + by_))) := by
    intro d
    induction d with
    | zero =>
      intro i hi
      obtain rfl : i = l.length := by omega
      rw [List.take_length]
      exact ⟨Ev.step (f := fun _ => some (l.map (fun x => wrap64 (x + by_)))) (fun k => by rw [spec_l05Shift.l0, if_neg (by omega)]) (Ev.now _), Ev.step (f := fun _ => some (l.map (fun x => wrap64 (x + by_)))) (fun k => by rw [impl_shifted.l0, if_neg (by omega)]) (Ev.now _)⟩
    | succ d ih =>
      intro i hi
      have hil : i < l.length := by omega
      obtain ⟨h1, h2⟩ := ih (i + 1) (by omega)
      rw [take_map_succ l _ i hil] at h1 h2
      have hlen : ((l.take i).map (fun x => wrap64 (x + by_))).length < 17592186044416 := by rw [List.length_map, List.length_take]; omega
      have w := w64n i (by omega)
      refine ⟨Ev.step (fun k => ?_) h1, Ev.step (fun k => ?_) h2⟩
      · rw [spec_l05Shift.l0, if_pos (by omega), if_pos (by omega), if_pos hlen, rd_get hil, w]
      · rw [impl_shifted.l0, if_pos (by omega), if_pos (by omega), if_pos (by omega), if_pos hlen, rd_get hil, w]
  have := loop l.length 0 (by omega)
  exact ⟨Ev.congr (fun _ => by rw [spec_l05Shift.f]; rfl) this.1, Ev.congr (fun _ => by rw [impl_shifted.f]; rfl) this.2⟩
theorem own_some (l : List Int) (h : l.length ≤ 1000000) : spec_l01Own.f l = some l := by
  unfold spec_l01Own.f
  simp only [Option.bind_some, List.length_nil, List.nil_append]
  rw [if_pos (by omega)]
theorem clone_some (l : List Int) (h0 : 0 < l.length) (h : l.length ≤ 1000000) : slices_Clone_int64_int64.f l = some l := by
  unfold slices_Clone_int64_int64.f
  rw [if_pos h0, if_pos h]
theorem formOk_len {a b : Int} {F B H : List Int} (h : FormOk a b F B H) : 0 < F.length ∧ F.length ≤ 64 ∧ B.length = F.length ∧ H.length = F.length := by
  obtain ⟨i, j, i1, j1, _, _, hF, hB, hH, _⟩ := h
  have h64 : 2 ^ (i + j) ≤ 64 := Nat.le_trans (Nat.pow_le_pow_right (by omega) (show i + j ≤ 6 by omega)) (by decide)
  have hpos : 0 < 2 ^ (i + j) := Nat.pow_pos (by omega)
  exact ⟨by omega, by omega, by omega, by omega⟩
theorem shiftForm_two (a b : Int) (F B H : List Int) (q : Int) (hl : H.length ≤ 1048576) : ∃ r, Ev (fun k => spec_ShiftForm.f k a b F B H q) r ∧ Ev (fun k => impl_ShiftForm.f k a b F B H q) r ∧ (r.2.2.2.2.2 ≠ 0 → r.1 = 0 ∧ r.2.1 = 0 ∧ r.2.2.1 = [] ∧ r.2.2.2.1 = [] ∧ r.2.2.2.2.1 = []) ∧ (r.2.2.2.2.2 = 0 → F.length ≤ 64 ∧ B.length ≤ 64 ∧ H.length ≤ 64 ∧ r = (a, b, F.map (fun x => wrap64 (x + q)), B.map (fun x => wrap64 (x + q)), H, 0)) ∧ (r.2.2.2.2.2 = 0 ↔ FormOk a b F B H ∧ (-1000000000 ≤ q ∧ q ≤ 1000000000) ∧ FormOk a b (F.map (fun x => wrap64 (x + q))) (B.map (fun x => wrap64 (x + q))) H) := by
  obtain ⟨v, v1, v2, v3⟩ := isForm_two a b F B H hl
  cases v with
  | false =>
    refine ⟨(0, 0, [], [], [], 1), ?_, ?_, fun _ => ⟨rfl, rfl, rfl, rfl, rfl⟩, (fun z => by cases z), (fun z => by cases z), fun z => by cases v3.2 z.1⟩
    · unfold spec_ShiftForm.f
      exact Ev.bind v1 (Ev_ite_f (by simp) (Ev.now _))
    · unfold impl_ShiftForm.f
      exact Ev.bind v2 (Ev_ite_f (by simp) (Ev.now _))
  | true =>
    have hok := v3.1 rfl
    obtain ⟨h0, h64, hB, hH⟩ := formOk_len hok
    by_cases c : -1000000000 ≤ q ∧ q ≤ 1000000000
    · obtain ⟨u, u1, u2, u3⟩ := isForm_two a b (F.map (fun x => wrap64 (x + q))) (B.map (fun x => wrap64 (x + q))) H hl
      have hs : ∀ r, (u = true → r = (a, b, F.map (fun x => wrap64 (x + q)), B.map (fun x => wrap64 (x + q)), H, (0 : Int))) → (u = false → r = (0, 0, [], [], [], 3)) → Ev (fun k => spec_ShiftForm.f k a b F B H q) r ∧ Ev (fun k => impl_ShiftForm.f k a b F B H q) r := by
        intro r r1 r2
        have F1 := shift_ev F q (by omega)
        have B1 := shift_ev B q (by omega)
        constructor
        · unfold spec_ShiftForm.f
          refine Ev.bind v1 (Ev_ite_t rfl (Ev.bind (Ev.congr (fun _ => l01In_eq _ _ _) (Ev.now _)) (Ev_ite_t (decide_eq_true c) (Ev.bind F1.1 (Ev.bind B1.1 (Ev.bind (Ev.congr (fun _ => own_some H (by omega)) (Ev.now _)) (Ev.bind u1 ?_)))))))
          cases u with
          | true => rw [r1 rfl]; exact Ev_ite_t rfl (Ev.now _)
          | false => rw [r2 rfl]; exact Ev_ite_f (by simp) (Ev.now _)
        · unfold impl_ShiftForm.f
          refine Ev.bind v2 (Ev_ite_t rfl (Ev.bind (Ev.congr (fun _ => inRange_eq _ _ _) (Ev.now _)) (Ev_ite_t (decide_eq_true c) (Ev.bind F1.2 (Ev.bind B1.2 (Ev.bind (Ev.congr (fun _ => clone_some H (by omega) (by omega)) (Ev.now _)) (Ev.bind u2 ?_)))))))
          cases u with
          | true => rw [r1 rfl]; exact Ev_ite_t rfl (Ev.now _)
          | false => rw [r2 rfl]; exact Ev_ite_f (by simp) (Ev.now _)
      cases u with
      | true =>
        obtain ⟨e1, e2⟩ := hs _ (fun _ => rfl) (fun z => by cases z)
        exact ⟨_, e1, e2, fun z => (z rfl).elim, fun _ => ⟨h64, by omega, by omega, rfl⟩, fun _ => ⟨hok, c, u3.1 rfl⟩, fun _ => rfl⟩
      | false =>
        obtain ⟨e1, e2⟩ := hs _ (fun z => by cases z) (fun _ => rfl)
        exact ⟨_, e1, e2, fun _ => ⟨rfl, rfl, rfl, rfl, rfl⟩, (fun z => by cases z), (fun z => by cases z), fun z => by cases u3.2 z.2.2⟩
    · refine ⟨(0, 0, [], [], [], 2), ?_, ?_, fun _ => ⟨rfl, rfl, rfl, rfl, rfl⟩, (fun z => by cases z), (fun z => by cases z), fun z => (c z.2.1).elim⟩
      · unfold spec_ShiftForm.f
        exact Ev.bind v1 (Ev_ite_t rfl (Ev.bind (Ev.congr (fun _ => l01In_eq _ _ _) (Ev.now _)) (Ev_ite_f (by simpa using c) (Ev.now _))))
      · unfold impl_ShiftForm.f
        exact Ev.bind v2 (Ev_ite_t rfl (Ev.bind (Ev.congr (fun _ => inRange_eq _ _ _) (Ev.now _)) (Ev_ite_f (by simpa using c) (Ev.now _))))
theorem toInt64S_ev (l : List Int) (hl : l.length ≤ 35184372088832) : Ev (fun k => laws_toInt64S.f k l) l := by
  have loop : ∀ (d i : Nat), i + d = l.length → ∀ x : List Int, x.length = l.length → (∀ j : Nat, j < i → rd x (j : Int) = rd l (j : Int)) → Ev (fun k => laws_toInt64S.l0 k l x (i : Int)) l := by
    intro d
    induction d with
    | zero =>
      intro i hi x hx h
      obtain rfl : x = l := rd_ext hx (fun j hj => h j (by omega))
      refine Ev.step (f := fun _ => some x) (fun k => by rw [laws_toInt64S.l0, if_neg (by omega)]) (Ev.now _)
    | succ d ih =>
      intro i hi x hx h
      refine Ev.step (f := fun k => laws_toInt64S.l0 k l (x.set i (rd l (i : Int))) ((i + 1 : Nat) : Int)) (fun k => by rw [laws_toInt64S.l0, if_pos (by omega), if_pos (by omega), if_pos (by omega), w64n i (by omega), toNat_cast]) ?_
      refine ih (i + 1) (by omega) _ (by rw [List.length_set]; exact hx) (fun j hj => ?_)
      rw [rd_set (by omega)]
      by_cases e : i = j
      · rw [if_pos e, e]
      · rw [if_neg e]; exact h j (by omega)
  refine Ev.congr (f := fun k => laws_toInt64S.l0 k l (List.replicate l.length 0) ((0 : Nat) : Int)) (fun k => ?_) (loop l.length 0 (by omega) _ (by simp) (fun j hj => by omega))
  simp only [laws_toInt64S.f, toNat_cast]
  rw [if_pos (by omega), if_pos (by omega)]
  rfl
theorem eqInt64S_ev (l : List Int) (hl : l.length ≤ 35184372088832) : Ev (fun k => laws_eqInt64S.f k l l) true := by
  have loop : ∀ (d i : Nat), i + d = l.length → Ev (fun k => laws_eqInt64S.l0 k l l (i : Int)) true := by
    intro d
    induction d with
    | zero =>
      intro i hi
      refine Ev.step (f := fun _ => some true) (fun k => by rw [laws_eqInt64S.l0, if_neg (by omega)]) (Ev.now _)
    | succ d ih =>
      intro i hi
      refine Ev.step (f := fun k => laws_eqInt64S.l0 k l l ((i + 1 : Nat) : Int)) (fun k => by rw [laws_eqInt64S.l0, if_pos (by omega), if_pos (by omega), if_pos (by omega), if_pos rfl, w64n i (by omega)]) ?_
      exact ih (i + 1) (by omega)
  refine Ev.congr (f := fun k => laws_eqInt64S.l0 k l l ((0 : Nat) : Int)) (fun k => ?_) (loop l.length 0 (by omega))
  simp only [laws_eqInt64S.f, if_true]
  rfl
theorem toForm_ev (a b : Int) (F B H : List Int) (h1 : F.length ≤ 1048576) (h2 : B.length ≤ 1048576) (h3 : H.length ≤ 1048576) : Ev (fun k => laws_toForm.f k a b F B H) (a, b, F, B, H) := by
  unfold laws_toForm.f
  exact Ev.bind (toInt64S_ev F (by omega)) (Ev.bind (toInt64S_ev B (by omega)) (Ev.bind (toInt64S_ev H (by omega)) (Ev.now _)))
theorem szForm_eq (a b : Int) (F B H : List Int) (h1 : F.length ≤ 9223372036854775807) (h2 : B.length ≤ 9223372036854775807) (h3 : H.length ≤ 9223372036854775807) : ∃ r : Int, laws_szForm.f a b F B H 1048576 = some r ∧ (0 ≤ r → F.length ≤ 1048576 ∧ B.length ≤ 1048576 ∧ H.length ≤ 1048576) := by
  have sz : ∀ (l : List Int) (m : Int), l.length ≤ 9223372036854775807 → 0 ≤ m → m ≤ 1048576 → ∃ r : Int, laws_szInt64S.f l m = some r ∧ r ≤ 1048576 ∧ (0 ≤ r → (l.length : Int) ≤ m) := by
    intro l m hl h0 h1
    have hw : wrap64 (m - (l.length : Int)) = m - (l.length : Int) := w64 (by omega) (by omega)
    unfold laws_szInt64S.f
    rw [hw]
    by_cases h : m - (l.length : Int) < 0
    · exact ⟨-1, if_pos h, by omega, fun z => by omega⟩
    · exact ⟨_, if_neg h, by omega, fun z => by omega⟩
  unfold laws_szForm.f
  obtain ⟨r1, e1, l1, g1⟩ := sz F 1048576 h1 (by omega) (by omega)
  rw [e1]
  simp only [Option.bind_some]
  by_cases c1 : r1 < 0
  · exact ⟨-1, if_pos c1, fun z => by omega⟩
  · rw [if_neg c1]
    obtain ⟨r2, e2, l2, g2⟩ := sz B r1 h2 (by omega) l1
    rw [e2]
    simp only [Option.bind_some]
    by_cases c2 : r2 < 0
    · exact ⟨-1, if_pos c2, fun z => by omega⟩
    · rw [if_neg c2]
      obtain ⟨r3, e3, l3, g3⟩ := sz H r2 h3 (by omega) l2
      rw [e3]
      simp only [Option.bind_some]
      by_cases c3 : r3 < 0
      · exact ⟨-1, if_pos c3, fun z => by omega⟩
      · rw [if_neg c3]
        exact ⟨r3, rfl, fun z => by have := g1 (by omega); have := g2 (by omega); have := g3 (by omega); omega⟩
theorem eqForm_ev (a b : Int) (F B H : List Int) (l1 : F.length ≤ 1048576) (l2 : B.length ≤ 1048576) (l3 : H.length ≤ 1048576) : Ev (fun k => laws_eqForm.f k a b F B H a b F B H) true := by
  unfold laws_eqForm.f
  first
    | exact Ev_ite_t rfl (Ev_ite_t rfl (Ev.bind (eqInt64S_ev F (by omega)) (Ev_ite_t rfl (Ev.bind (eqInt64S_ev B (by omega)) (Ev_ite_t rfl (eqInt64S_ev H (by omega)))))))
    | exact Ev_ite_t rfl (Ev_ite_t rfl (Ev.bind (eqInt64S_ev F (by omega)) (Ev_ite_t rfl (Ev.bind (eqInt64S_ev B (by omega)) (Ev_ite_t rfl (Ev.bind (eqInt64S_ev H (by omega)) (Ev_ite_t rfl (Ev.now _))))))))
    | exact Ev_ite_t rfl (Ev_ite_t rfl (Ev.bind (eqInt64S_ev F (by omega)) (Ev_ite_t rfl (Ev.bind (eqInt64S_ev B (by omega)) (Ev_ite_t rfl (Ev.bind (eqInt64S_ev H (by omega)) (Ev.now _)))))))
theorem markInt64S_ev (l : List Int) (q : Int) (hl : l.length ≤ 35184372088832) (hq : 0 ≤ q) (hq1 : q ≤ 1000000000000000000) :
    ∃ x : List Int, x.length = l.length ∧ (∀ j : Nat, j < l.length → rd x (j : Int) = q + j) ∧ Ev (fun k => laws_markInt64S.f k l q) (q + l.length, x) := by
  have loop : ∀ (d i : Nat), i + d = l.length → ∀ x : List Int, x.length = l.length → (∀ j : Nat, j < i → rd x (j : Int) = q + j) →
      ∃ y : List Int, y.length = l.length ∧ (∀ j : Nat, j < l.length → rd y (j : Int) = q + j) ∧ Ev (fun k => laws_markInt64S.l0 k x (q + i) (i : Int)) (q + l.length, y) := by
    intro d
    induction d with
    | zero =>
      intro i hi x hx h
      obtain rfl : i = l.length := by omega
      exact ⟨x, hx, h, Ev.step (f := fun _ => some (q + l.length, x)) (fun k => by rw [laws_markInt64S.l0, if_neg (by omega)]) (Ev.now _)⟩
    | succ d ih =>
      intro i hi x hx h
      obtain ⟨y, h1, h2, h3⟩ := ih (i + 1) (by omega) (x.set i (q + i)) (by rw [List.length_set]; exact hx) (fun j hj => by
        rw [rd_set (by omega)]
        by_cases e : i = j
        · rw [if_pos e, e]
        · rw [if_neg e]; exact h j (by omega))
      refine ⟨y, h1, h2, Ev.step (fun k => ?_) h3⟩
      have e1 : wrap64 (q + (i : Int) + 1) = q + ((i + 1 : Nat) : Int) := by rw [w64 (by omega) (by omega)]; omega
      rw [laws_markInt64S.l0, if_pos (by omega), if_pos (by omega), w64n i (by omega), toNat_cast, e1]
  obtain ⟨y, h1, h2, h3⟩ := loop l.length 0 (by omega) l rfl (fun j hj => by omega)
  refine ⟨y, h1, h2, Ev.congr (fun k => ?_) h3⟩
  simp only [laws_markInt64S.f]
  rw [show q + ((0 : Nat) : Int) = q by omega]
  rfl
theorem heldInt64S_ev (x : List Int) (n : Nat) (q : Int) (hx : x.length = n) (h : ∀ j : Nat, j < n → rd x (j : Int) = q + j) (hl : n ≤ 35184372088832) (hq : 0 ≤ q) (hq1 : q ≤ 1000000000000000000) :
    Ev (fun k => laws_heldInt64S.f k x q) (q + n) := by
  have loop : ∀ (d i : Nat), i + d = n → Ev (fun k => laws_heldInt64S.l0 k x (q + i) (i : Int)) (q + n) := by
    intro d
    induction d with
    | zero =>
      intro i hi
      obtain rfl : i = n := by omega
      exact Ev.step (f := fun _ => some (q + (i : Int))) (fun k => by rw [laws_heldInt64S.l0, if_neg (by omega)]) (Ev.now _)
    | succ d ih =>
      intro i hi
      refine Ev.step (fun k => ?_) (ih (i + 1) (by omega))
      have e1 : wrap64 (q + (i : Int) + 1) = q + ((i + 1 : Nat) : Int) := by rw [w64 (by omega) (by omega)]; omega
      rw [laws_heldInt64S.l0, if_pos (by omega), if_pos (by omega), if_pos (h i (by omega)), w64n i (by omega), e1]
  refine Ev.congr (fun k => ?_) (loop n 0 (by omega))
  simp only [laws_heldInt64S.f]
  rw [show q + ((0 : Nat) : Int) = q by omega]
  rfl
theorem markForm_ev (a b : Int) (F B H : List Int) (l1 : F.length ≤ 1048576) (l2 : B.length ≤ 1048576) (l3 : H.length ≤ 1048576) : ∃ (q : Int) (x y z : List Int), 0 ≤ q ∧ Ev (fun k => laws_markForm.f k a b F B H 1) (q, x, y, z) ∧ Ev (fun k => laws_heldForm.f k a b x y z 1) q := by
  obtain ⟨x, x1, x2, x3⟩ := markInt64S_ev F 1 (by omega) (by omega) (by omega)
  obtain ⟨y, y1, y2, y3⟩ := markInt64S_ev B (1 + F.length) (by omega) (by omega) (by omega)
  obtain ⟨z, z1, z2, z3⟩ := markInt64S_ev H (1 + F.length + B.length) (by omega) (by omega) (by omega)
  refine ⟨1 + F.length + B.length + H.length, x, y, z, by omega, ?_, ?_⟩
  · unfold laws_markForm.f
    exact Ev.bind x3 (Ev.bind y3 (Ev.bind z3 (Ev.now _)))
  · unfold laws_heldForm.f
    exact Ev.bind (heldInt64S_ev x F.length 1 x1 x2 (by omega) (by omega) (by omega)) (Ev_ite_f (by omega) (Ev.bind (heldInt64S_ev y B.length _ y1 y2 (by omega) (by omega) (by omega)) (Ev_ite_f (by omega) (Ev.bind (heldInt64S_ev z H.length _ z1 z2 (by omega) (by omega) (by omega)) (Ev_ite_f (by omega) (Ev.now _))))))
theorem FnExactShiftForm : laws_FnExactShiftForm.Pure := by
  intro a b F B H q0_ ha hb h1 _ h2 _ h3 _ hq_
  apply Ev.rounds
  unfold laws_FnExactShiftForm.f
  have hm : maxLen = 9223372036854775807 := by decide
  rw [hm] at h1 h2 h3
  obtain ⟨r, r1, r2⟩ := szForm_eq a b F B H h1 h2 h3
  rw [r1]
  refine Ev.bind (Ev.now _) ?_
  by_cases hr : r < 0
  · exact Ev_ite_t hr (Ev.now _)
  · obtain ⟨l1, l2, l3⟩ := r2 (by omega)
    have ht := toForm_ev a b F B H l1 l2 l3
    have hme := eqForm_ev a b F B H l1 l2 l3
    obtain ⟨⟨c, d, F', B', H', e⟩, v1, v2, v3, v4, _⟩ := shiftForm_two a b F B H q0_ l3
    have hl : F'.length ≤ 1048576 ∧ B'.length ≤ 1048576 ∧ H'.length ≤ 1048576 := by
      by_cases z : e = 0
      · obtain ⟨p1, p2, p3, z⟩ := v4 z
        simp only [Prod.mk.injEq] at z
        obtain ⟨_, _, rfl, rfl, rfl, _⟩ := z
        exact ⟨by rw [List.length_map]; omega, by rw [List.length_map]; omega, by omega⟩
      · obtain ⟨_, _, z3, z4, z5⟩ := v3 z
        simp only at z3 z4 z5
        rw [z3, z4, z5]
        simp
    obtain ⟨g1, g2, g3⟩ := hl
    have he := eqForm_ev c d F' B' H' g1 g2 g3
    obtain ⟨q, x, y, z, q0, m1, m2⟩ := markForm_ev c d F' B' H' g1 g2 g3
    obtain ⟨q', x', y', z', q0', n1, n2⟩ := markForm_ev a b F B H l1 l2 l3
    refine Ev_ite_f hr (Ev.bind ht (Ev.bind v1 (Ev.bind ht (Ev.bind v2 (Ev.bind he (Ev_ite_t rfl ?_))))))
    refine Ev.step (fun k => by rw [laws_FnExactShiftForm.j0, if_neg (by simp)]) ?_
    refine Ev.bind ht (Ev.bind hme (Ev_ite_t rfl (Ev.bind n1 (Ev_ite_f (by show ¬ q' < 0; omega) (Ev.bind he (Ev_ite_t rfl ?_))))))
    refine Ev.step (fun k => by rw [laws_FnExactShiftForm.j1, if_neg (by simp)]) ?_
    refine Ev.bind m1 (Ev.bind m2 (Ev_ite_f (by omega) (Ev_ite_t rfl (Ev.bind ht (Ev.bind v2 (Ev.bind he (Ev_ite_t rfl ?_)))))))
    refine Ev.step (fun k => by rw [laws_FnExactShiftForm.j2, if_neg (by simp)]) ?_
    exact Ev.bind m2 (Ev_ite_f (by omega) (Ev_ite_t rfl (Ev.now _)))

end Go.Proofs.Ytkpidjmhdagkfaa.Pure
