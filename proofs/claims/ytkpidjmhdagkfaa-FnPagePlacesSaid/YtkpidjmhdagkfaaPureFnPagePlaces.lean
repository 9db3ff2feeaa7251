/- The pure statement of FnPagePlaces: for every input that the row lets in, the law's Lean function answers true; no further condition. -/
import Derived.Test.YtkpidjmhdagkfaaQFnPagePlacesx17
set_option linter.unusedVariables false
set_option linter.unusedSimpArgs false
namespace Go.Proofs.Ytkpidjmhdagkfaa.Pure
open Go.RowKit Go.Proofs.Ytkpidjmhdagkfaa.QFnPagePlaces Go.Proofs.YtkpidjmhdagkfaaW.PrintWords Go.Proofs.YtkpidjmhdagkfaaW.PrintLast

theorem w64 {x : Int} (h0 : -9223372036854775808 ≤ x) (h1 : x ≤ 9223372036854775807) : wrap64 x = x := by unfold wrap64; omega
theorem wf8 {x : Int} (h : (Lit.int .u8 x).wf = true) : 0 ≤ x ∧ x ≤ 255 := by
 have h' : (decide (IntKind.u8.min ≤ x) && decide (x ≤ IntKind.u8.max)) = true := h
 simp only [Bool.and_eq_true, decide_eq_true_eq] at h'
 exact h'
theorem rd_get {xs : List Int} {i : Nat} (h : i < xs.length) : rd xs (i : Int) = xs[i] := by
 simp [rd, List.getD_eq_getElem?_getD, h]
theorem rd_mem {xs : List Int} {i : Nat} (h : i < xs.length) : rd xs (i : Int) ∈ xs := by rw [rd_get h]; exact List.getElem_mem h
theorem drop_cons {xs : List Int} {i : Nat} (h : i < xs.length) : xs.drop i = rd xs (i : Int) :: xs.drop (i + 1) := by
 rw [rd_get h]; exact List.drop_eq_getElem_cons h
theorem Ev_ite_t {α : Type} {c : Prop} [Decidable c] {f g : Nat → Option α} {r : α} (h : c) (k : Ev f r) : Ev (fun n => if c then f n else g n) r :=
 Ev.congr (fun _ => if_pos h) k
theorem Ev_ite_f {α : Type} {c : Prop} [Decidable c] {f g : Nat → Option α} {r : α} (h : ¬ c) (k : Ev g r) : Ev (fun n => if c then f n else g n) r :=
 Ev.congr (fun _ => if_neg h) k
theorem w64n (i : Nat) (h : i < 9223372036854775807) : wrap64 ((i : Int) + 1) = ((i + 1 : Nat) : Int) := by
 rw [w64 (by omega) (by omega)]; rfl
theorem l01In_eq (n a b : Int) : spec_l01In.f n a b = some (decide (a ≤ n ∧ n ≤ b)) := by
 unfold spec_l01In.f
 by_cases h : n ≥ a
 ·rw [if_pos h]; simp [show a ≤ n from h]
 ·rw [if_neg h]; simp [show ¬ a ≤ n from h]
theorem inRange_eq (n a b : Int) : impl_inRange.f n a b = some (decide (a ≤ n ∧ n ≤ b)) := by
 unfold impl_inRange.f
 by_cases h : a ≤ n
 ·rw [if_pos h]; simp [h]
 ·rw [if_neg h]; simp [h]
theorem within_ev (l : List Int) (m lo hi : Int) (hl : l.length ≤ 35184372088832) (b : Bool) (hb : b = true ↔ (l.length : Int) ≤ m ∧ ∀ x ∈ l, lo ≤ x ∧ x ≤ hi) : Ev (fun k => spec_l01Within.f k l m lo hi) b := by
 have loop : ∀ (d i : Nat), i + d = l.length → ∀ b : Bool, (b = true ↔ (l.length : Int) ≤ m ∧ ∀ x ∈ l.drop i, lo ≤ x ∧ x ≤ hi) → Ev (fun k => spec_l01Within.l0 k l m lo hi (i : Int)) b := by
  intro d
  induction d with
  | zero =>
   intro i hi' b hb
   have e : b = decide ((l.length : Int) ≤ m) := by
    rw [Bool.eq_iff_iff, hb, decide_eq_true_iff, show l.drop i = [] from List.drop_of_length_le (by omega)]
    exact ⟨fun h => h.1, fun h => ⟨h, fun x hx => by simp at hx⟩⟩
   rw [e]
   exact Ev.step (f := fun _ => some (decide ((l.length : Int) ≤ m))) (fun k => by rw [spec_l01Within.l0, if_neg (by omega)]) (Ev.now _)
  | succ d ih =>
   intro i hi' b hb
   refine Ev.step (f := fun k => if decide (lo ≤ rd l (i : Int) ∧ rd l (i : Int) ≤ hi) = true then spec_l01Within.l0 k l m lo hi ((i + 1 : Nat) : Int) else some false) (fun k => by rw [spec_l01Within.l0, if_pos (by omega), if_pos (by omega), l01In_eq, w64n i (by omega)]; rfl) ?_
   rw [drop_cons (xs := l) (i := i) (by omega)] at hb
   simp only [List.mem_cons, forall_eq_or_imp] at hb
   by_cases h : lo ≤ rd l (i : Int) ∧ rd l (i : Int) ≤ hi
   ·refine Ev_ite_t (decide_eq_true h) (ih (i + 1) (by omega) b ?_)
    rw [hb]
    exact ⟨fun x => ⟨x.1, x.2.2⟩, fun x => ⟨x.1, h, x.2⟩⟩
   ·have e : b = false := by
     rw [Bool.eq_false_iff]; intro hbt
     exact h (hb.1 hbt).2.1
    rw [e]
    exact Ev_ite_f (by rw [decide_eq_true_iff]; exact h) (Ev.now _)
 have := loop l.length 0 (by omega) b (by rw [List.drop_zero]; exact hb)
 exact Ev.congr (fun k => rfl) this
theorem allIn_eq (l : List Int) (lo hi : Int) : impl_allIn.f l lo hi = some (decide (∀ x ∈ l, lo ≤ x ∧ x ≤ hi)) := by
 unfold impl_allIn.f
 congr 1
 rw [Bool.eq_iff_iff, decide_eq_true_iff, Bool.not_eq_true', List.any_eq_false]
 unfold allIn_out
 constructor
 ·intro h x hx; simpa using h x hx
 ·intro h x hx; simpa using h x hx
theorem l01Has_ev (l : List Int) (x : Int) (hl : l.length ≤ 35184372088832) : Ev (fun k => spec_l01Has.f k l x) (decide (x ∈ l)) := by
 have loop : ∀ (d i : Nat), i + d = l.length → Ev (fun k => spec_l01Has.l0 k l x (i : Int)) (decide (x ∈ l.drop i)) := by
  intro d
  induction d with
  | zero =>
   intro i hi
   have e : decide (x ∈ l.drop i) = false := by rw [List.drop_of_length_le (by omega)]; simp
   rw [e]
   exact Ev.step (f := fun _ => some false) (fun k => by rw [spec_l01Has.l0, if_neg (by omega)]) (Ev.now _)
  | succ d ih =>
   intro i hi
   by_cases e : rd l (i : Int) = x
   ·have e1 : decide (x ∈ l.drop i) = true := by rw [drop_cons (by omega)]; simp [e]
    rw [e1]
    exact Ev.step (f := fun _ => some true) (fun k => by rw [spec_l01Has.l0, if_pos (by omega), if_pos (by omega), if_pos e]) (Ev.now _)
   ·have e1 : decide (x ∈ l.drop i) = decide (x ∈ l.drop (i + 1)) := by rw [drop_cons (by omega)]; simp [Ne.symm e]
    rw [e1]
    exact Ev.step (fun k => by rw [spec_l01Has.l0, if_pos (by omega), if_pos (by omega), if_neg e, w64n i (by omega)]) (ih (i + 1) (by omega))
 have := loop l.length 0 (by omega)
 rw [List.drop_zero] at this
 exact Ev.congr (fun k => rfl) this
theorem side0 (a : Int) : (∃ j : Nat, j ≤ 3 ∧ a = ((2 ^ j : Nat) : Int) ∧ spec_l04Power.f a = some ((j : Int), true) ∧ impl_isSide.f a = some true) ∨ (spec_l04Power.f a = some (0, false) ∧ impl_isSide.f a = some false) := by
 by_cases h1 : a = 1
 ·subst h1; exact .inl ⟨0, by decide, by decide, by decide +kernel, by decide +kernel⟩
 by_cases h2 : a = 2
 ·subst h2; exact .inl ⟨1, by decide, by decide, by decide +kernel, by decide +kernel⟩
 by_cases h4 : a = 4
 ·subst h4; exact .inl ⟨2, by decide, by decide, by decide +kernel, by decide +kernel⟩
 by_cases h8 : a = 8
 ·subst h8; exact .inl ⟨3, by decide, by decide, by decide +kernel, by decide +kernel⟩
 ·refine .inr ⟨?_, ?_⟩
  ·unfold spec_l04Power.f
   rw [if_neg h1, if_neg h2, if_neg h4, if_neg h8]
  ·unfold impl_isSide.f
   rw [if_neg h1, if_neg h2, if_neg h4, show (a == 8) = false from beq_false_of_ne h8]
theorem sheet0 (a b : Int) : (∃ i j : Nat, i ≤ 3 ∧ j ≤ 3 ∧ a = ((2 ^ i : Nat) : Int) ∧ b = ((2 ^ j : Nat) : Int) ∧ spec_l04Sheet.f a b = some true ∧ impl_isSheet.f a b = some true) ∨ (spec_l04Sheet.f a b = some false ∧ impl_isSheet.f a b = some false) := by
 unfold spec_l04Sheet.f impl_isSheet.f
 rcases side0 a with ⟨i, i1, i2, i3, i4⟩ | ⟨i3, i4⟩
 ·rcases side0 b with ⟨j, j1, j2, j3, j4⟩ | ⟨j3, j4⟩
  ·exact .inl ⟨i, j, i1, j1, i2, j2, by rw [i3, j3]; rfl, by rw [i4, j4]; rfl⟩
  ·exact .inr ⟨by rw [i3, j3]; rfl, by rw [i4, j4]; rfl⟩
 ·refine .inr ⟨?_, by rw [i4]; rfl⟩
  rw [i3]
  rcases side0 b with ⟨j, j1, j2, j3, j4⟩ | ⟨j3, j4⟩
  ·rw [j3]; rfl
  ·rw [j3]; rfl
theorem sheet0_ok {i j : Nat} (hi : i ≤ 3) (hj : j ≤ 3) : impl_isSheet.f ((2 ^ i : Nat) : Int) ((2 ^ j : Nat) : Int) = some true := by
 have h : ∀ i j : Fin 4, impl_isSheet.f ((2 ^ i.val : Nat) : Int) ((2 ^ j.val : Nat) : Int) = some true := by decide +kernel
 exact h ⟨i, by omega⟩ ⟨j, by omega⟩
theorem concat2_ev {b c : List Int} (hb : b.length ≤ 1000) (hc : c.length ≤ 1000) : Ev (fun k => slices_Concat_int64_int64.f k [b, c]) (b ++ c) := by
 have r0 : rd_L1 [b, c] 0 = b := rfl
 have r1 : rd_L1 [b, c] 1 = c := rfl
 have l2 : (([b, c] : List (List Int)).length : Int) = 2 := rfl
 have g0 : (0 : Int) < (([b, c] : List (List Int)).length : Int) := by rw [l2]; omega
 have g1 : (1 : Int) < (([b, c] : List (List Int)).length : Int) := by rw [l2]; omega
 have w1 : wrap64 (0 + 1) = 1 := by rw [w64 (by omega) (by omega)]; rfl
 have w2 : wrap64 (1 + 1) = 2 := by rw [w64 (by omega) (by omega)]; rfl
 have s1 : wrap64 (0 + (b.length : Int)) = (b.length : Int) := by rw [w64 (by omega) (by omega)]; omega
 have s2 : wrap64 ((b.length : Int) + (c.length : Int)) = ((b.length + c.length : Nat) : Int) := by rw [w64 (by omega) (by omega)]; omega
 have hg : slices_Grow_int64_int64.f ([] : List Int) ((b.length + c.length : Nat) : Int) = some [] := by
  unfold slices_Grow_int64_int64.f
  rw [if_pos rfl, if_pos (by omega), if_pos (by omega)]
 have a1 : ([] : List Int).length + b.length < 17592186044416 := by rw [List.length_nil]; omega
 have a2 : b.length + c.length < 17592186044416 := by omega
 generalize ([b, c] : List (List Int)) = G at r0 r1 l2 g0 g1
 refine Ev.step (f := fun k => slices_Concat_int64_int64.l0 k G (b.length : Int) G 2 1) (fun k => ?_) ?_
 ·show slices_Concat_int64_int64.l0 (k + 1) G 0 G (G.length : Int) 0 = _
  rw [l2, slices_Concat_int64_int64.l0, r0, s1, w1, if_pos (by decide), if_pos (by decide), if_pos g0, if_neg (by omega)]
 refine Ev.step (f := fun k => slices_Concat_int64_int64.l0 k G ((b.length + c.length : Nat) : Int) G 2 2) (fun k => ?_) ?_
 ·rw [slices_Concat_int64_int64.l0, r1, s2, w2, if_pos (by decide), if_pos (by decide), if_pos g1, if_neg (by omega)]
 refine Ev.step (f := fun k => slices_Concat_int64_int64.l1 k [] G 2 0) (fun k => ?_) ?_
 ·rw [slices_Concat_int64_int64.l0, if_neg (by decide), hg, l2]; rfl
 refine Ev.step (f := fun k => slices_Concat_int64_int64.l1 k b G 2 1) (fun k => ?_) ?_
 ·rw [slices_Concat_int64_int64.l1, r0, w1, if_pos (by decide), if_pos (by decide), if_pos g0, if_pos a1, List.nil_append]
 refine Ev.step (f := fun k => slices_Concat_int64_int64.l1 k (b ++ c) G 2 2) (fun k => ?_) ?_
 ·rw [slices_Concat_int64_int64.l1, r1, w2, if_pos (by decide), if_pos (by decide), if_pos g1, if_pos a2]
 exact Ev.step (f := fun _ => some (b ++ c)) (fun k => by rw [slices_Concat_int64_int64.l1, if_neg (by decide)]) (Ev.now _)
/-- The pages of a form: they are m numbers that follow one another from first on. -/
def Run (all : List Int) (first : Int) : Prop := (∀ x ∈ all, first ≤ x ∧ x ≤ first + (all.length : Int) - 1) ∧ all.Nodup
theorem sortedAll (l : List Int) : (l.mergeSort (fun x y => decide (x ≤ y))).Pairwise (fun x y => x ≤ y) := by
 have h := List.pairwise_mergeSort (le := fun x y : Int => decide (x ≤ y)) (fun a b c h1 h2 => by simp only [decide_eq_true_iff] at *; omega) (fun a b => by simp only [Bool.or_eq_true, decide_eq_true_iff]; omega) l
 exact h.imp (fun h => by simpa using h)
theorem run_sorted {all s : List Int} {first : Int} (hp : s.Perm all) (hs : s.Pairwise (fun x y => x ≤ y)) (h : Run all first) : ∀ i (hi : i < s.length), s[i] = first + (i : Int) := by
 have hn : s.Nodup := hp.nodup_iff.2 h.2
 have hl : s.length = all.length := hp.length_eq
 have hb : ∀ x ∈ s, first ≤ x ∧ x ≤ first + (s.length : Int) - 1 := fun x hx => by rw [hl]; exact h.1 x (hp.mem_iff.1 hx)
 have hlt : s.Pairwise (fun x y => x < y) := by
  have := hs.and hn
  exact this.imp (fun ⟨a, b⟩ => by omega)
 have step : ∀ i (hi : i + 1 < s.length), s[i] + 1 ≤ s[i + 1] := fun i hi => by
  have := List.pairwise_iff_getElem.1 hlt i (i + 1) (by omega) hi (by omega)
  omega
 have low : ∀ i (hi : i < s.length), first + (i : Int) ≤ s[i] := by
  intro i
  induction i with
  | zero => intro hi; have := (hb _ (List.getElem_mem hi)).1; omega
  | succ i ih => intro hi; have := ih (by omega); have := step i hi; omega
 have up : ∀ d i (hi : i < s.length), i + d + 1 = s.length → s[i] ≤ first + (i : Int) := by
  intro d
  induction d with
  | zero => intro i hi he; have := (hb _ (List.getElem_mem hi)).2; omega
  | succ d ih => intro i hi he; have := ih (i + 1) (by omega) (by omega); have := step i (by omega); omega
 intro i hi
 have h1 := low i hi
 have h2 := up (s.length - 1 - i) i hi (by omega)
 omega
theorem sorted_run {all s : List Int} {first : Int} (hp : s.Perm all) (h : ∀ i (hi : i < s.length), s[i] = first + (i : Int)) : Run all first := by
 have hl : s.length = all.length := hp.length_eq
 refine ⟨fun x hx => ?_, ?_⟩
 ·obtain ⟨i, hi, e⟩ := List.getElem_of_mem (hp.mem_iff.2 hx)
  have := h i hi
  omega
 ·refine hp.nodup_iff.1 ?_
  rw [List.nodup_iff_pairwise_ne]
  refine List.pairwise_iff_getElem.2 (fun i j hi hj hij => ?_)
  rw [h i hi, h j hj]
  omega
theorem mn_le (a b : Int) : mn a b ≤ a ∧ mn a b ≤ b ∧ (mn a b = a ∨ mn a b = b) := by unfold mn; split <;> omega
theorem least_ev (a b : Int) (F B H : List Int) (hl : F.length = B.length) (h0 : 0 < F.length) (h1 : F.length ≤ 1000) : ∃ m, Ev (fun k => spec_l05Least.f k a b F B H) m ∧ m ∈ F ++ B ∧ ∀ x ∈ F ++ B, m ≤ x := by
 have loop : ∀ (d i : Nat), i + d = F.length → ∀ m : Int, m ∈ F ++ B → (∀ j (hj : j < F.length), j < i → m ≤ F[j] ∧ m ≤ B[j]) → ∃ r, Ev (fun k => spec_l05Least.l0 k m (i : Int) a b F B H) r ∧ r ∈ F ++ B ∧ ∀ j (hj : j < F.length), r ≤ F[j] ∧ r ≤ B[j] := by
  intro d
  induction d with
  | zero =>
   intro i hi m hm hj
   exact ⟨m, Ev.step (f := fun _ => some m) (fun k => by rw [spec_l05Least.l0, if_neg (by omega)]) (Ev.now _), hm, fun j hj' => hj j hj' (by omega)⟩
  | succ d ih =>
   intro i hi m hm hj
   have hF : i < F.length := by omega
   have hB : i < B.length := by omega
   obtain ⟨p1, p2, p3⟩ := mn_le F[i] B[i]
   obtain ⟨q1, q2, q3⟩ := mn_le m (mn F[i] B[i])
   obtain ⟨r, r1, r2, r3⟩ := ih (i + 1) (by omega) (mn m (mn F[i] B[i])) (by
    rcases q3 with e | e
    ·rw [e]; exact hm
    ·rw [e]
     rcases p3 with e | e
     ·rw [e]; exact List.mem_append.2 (.inl (List.getElem_mem hF))
     ·rw [e]; exact List.mem_append.2 (.inr (List.getElem_mem hB))) (fun j hj' hji => by
    by_cases e : j = i
    ·subst e; omega
    ·have := hj j hj' (by omega); omega)
   refine ⟨r, Ev.step (fun k => ?_) r1, r2, r3⟩
   rw [spec_l05Least.l0, if_pos (by omega), if_pos (by omega), if_pos (by omega), rd_get hF, rd_get hB, w64n i (by omega)]
 have e0 : rd F (0 : Int) = F[0] := rd_get (i := 0) h0
 obtain ⟨r, r1, r2, r3⟩ := loop F.length 0 (by omega) F[0] (List.mem_append.2 (.inl (List.getElem_mem h0))) (fun j _ hj => by omega)
 refine ⟨r, ?_, r2, fun x hx => ?_⟩
 ·unfold spec_l05Least.f
  refine Ev_ite_t (by omega) ?_
  rw [e0]
  exact r1
 ·rcases List.mem_append.1 hx with hx | hx
  ·obtain ⟨j, hj, e⟩ := List.getElem_of_mem hx
   have := (r3 j hj).1
   omega
  ·obtain ⟨j, hj, e⟩ := List.getElem_of_mem hx
   have := (r3 j (by omega)).2
   omega
theorem specForm_loop (n : Int) (all : List Int) (first : Int) (hl : all.length ≤ 1000) : ∀ (d i : Nat), i + d = all.length → ∃ v : Bool, Ev (fun k => spec_IsForm.l0 k n all first (i : Int)) v ∧ (v = true ↔ (∀ j (hj : j < all.length), i ≤ j → first ≤ all[j] ∧ all[j] ≤ wrap64 (wrap64 (first + wrap64 (2 * n)) - 1) ∧ all[j] ∉ all.take j) ∧ 1 ≤ first ∧ first ≤ 1000000000) := by
 intro d
 induction d with
 | zero =>
  intro i hi
  refine ⟨decide (1 ≤ first ∧ first ≤ 1000000000), ?_, ?_⟩
  ·by_cases h1 : first ≥ 1
   ·refine Ev.step (f := fun _ => some (decide (first ≤ 1000000000))) (fun k => by rw [spec_IsForm.l0, if_neg (by omega), if_pos h1]) ?_
    rw [show decide (1 ≤ first ∧ first ≤ 1000000000) = decide (first ≤ 1000000000) by simp only [decide_eq_decide]; omega]
    exact Ev.now _
   ·refine Ev.step (f := fun _ => some false) (fun k => by rw [spec_IsForm.l0, if_neg (by omega), if_neg h1]) ?_
    rw [decide_eq_false (by omega)]
    exact Ev.now _
  ·rw [decide_eq_true_iff]
   exact ⟨fun h => ⟨fun j hj hij => by omega, h⟩, fun h => h.2⟩
 | succ d ih =>
  intro i hi
  have hil : i < all.length := by omega
  obtain ⟨v, v1, v2⟩ := ih (i + 1) (by omega)
  have hh := l01Has_ev (all.take i) all[i] (by rw [List.length_take]; omega)
  by_cases c1 : first ≤ all[i] ∧ all[i] ≤ wrap64 (wrap64 (first + wrap64 (2 * n)) - 1)
  ·by_cases c2 : all[i] ∈ all.take i
   ·refine ⟨false, ?_, ?_⟩
    ·refine Ev.step (fun k => by rw [spec_IsForm.l0, if_pos (by omega), if_pos (by omega), rd_get hil, l01In_eq]) ?_
     refine Ev.bind (Ev.now _) (Ev_ite_t (decide_eq_true c1) (Ev_ite_t (by omega) ?_))
     rw [Int.toNat_natCast]
     exact Ev.bind hh (Ev_ite_t (decide_eq_true c2) (Ev.now _))
    ·exact ⟨(fun z => by cases z), fun h => ((h.1 i hil (Nat.le_refl _)).2.2 c2).elim⟩
   ·refine ⟨v, ?_, ?_⟩
    ·refine Ev.step (fun k => by rw [spec_IsForm.l0, if_pos (by omega), if_pos (by omega), rd_get hil, l01In_eq]) ?_
     refine Ev.bind (Ev.now _) (Ev_ite_t (decide_eq_true c1) (Ev_ite_t (by omega) ?_))
     rw [Int.toNat_natCast]
     refine Ev.bind hh (Ev_ite_f (by simpa using c2) ?_)
     rw [w64n i (by omega)]
     exact v1
    ·rw [v2]
     constructor
     ·rintro ⟨g, h⟩
      refine ⟨fun j hj hij => ?_, h⟩
      by_cases e : j = i
      ·subst e; exact ⟨c1.1, c1.2, c2⟩
      ·exact g j hj (by omega)
     ·rintro ⟨g, h⟩
      exact ⟨fun j hj hij => g j hj (by omega), h⟩
  ·refine ⟨false, ?_, ?_⟩
   ·refine Ev.step (fun k => by rw [spec_IsForm.l0, if_pos (by omega), if_pos (by omega), rd_get hil, l01In_eq]) ?_
    exact Ev.bind (Ev.now _) (Ev_ite_f (by simpa using c1) (Ev.now _))
   ·exact ⟨(fun z => by cases z), fun h => (c1 ⟨(h.1 i hil (Nat.le_refl _)).1, (h.1 i hil (Nat.le_refl _)).2.1⟩).elim⟩
theorem implForm_loop (s : List Int) (hl : s.length ≤ 1000) (h0 : 0 < s.length) : ∀ (d i : Nat), i + d = s.length → ∃ v : Bool, Ev (fun k => impl_IsForm.l0 k s s (s.length : Int) (i : Int)) v ∧ (v = true ↔ ∀ j (hj : j < s.length), i ≤ j → (1 ≤ s[0] ∧ s[0] ≤ 1000000000) ∧ s[j] = wrap64 (s[0] + (j : Int))) := by
 intro d
 have e0 : rd s (0 : Int) = s[0] := rd_get (i := 0) h0
 induction d with
 | zero =>
  intro i hi
  exact ⟨true, Ev.step (f := fun _ => some true) (fun k => by rw [impl_IsForm.l0, if_neg (by omega)]) (Ev.now _), fun _ j hj hij => by omega, fun _ => rfl⟩
 | succ d ih =>
  intro i hi
  have hil : i < s.length := by omega
  obtain ⟨v, v1, v2⟩ := ih (i + 1) (by omega)
  by_cases c1 : 1 ≤ s[0] ∧ s[0] ≤ 1000000000
  ·by_cases c2 : s[i] = wrap64 (s[0] + (i : Int))
   ·refine ⟨v, ?_, ?_⟩
    ·refine Ev.step (fun k => by rw [impl_IsForm.l0, if_pos (by omega), if_pos (by omega), if_pos (by omega), if_pos (by omega), e0, inRange_eq, rd_get hil]) ?_
     refine Ev.bind (Ev.now _) (Ev_ite_t (decide_eq_true c1) (Ev_ite_t c2 ?_))
     rw [w64n i (by omega)]
     exact v1
    ·rw [v2]
     constructor
     ·intro g j hj hij
      by_cases e : j = i
      ·subst e; exact ⟨c1, c2⟩
      ·exact g j hj (by omega)
     ·intro g j hj hij
      exact g j hj (by omega)
   ·refine ⟨false, ?_, ?_⟩
    ·refine Ev.step (fun k => by rw [impl_IsForm.l0, if_pos (by omega), if_pos (by omega), if_pos (by omega), if_pos (by omega), e0, inRange_eq, rd_get hil]) ?_
     exact Ev.bind (Ev.now _) (Ev_ite_t (decide_eq_true c1) (Ev_ite_f c2 (Ev.now _)))
    ·exact ⟨(fun z => by cases z), fun g => (c2 (g i hil (Nat.le_refl _)).2).elim⟩
  ·refine ⟨false, ?_, ?_⟩
   ·refine Ev.step (fun k => by rw [impl_IsForm.l0, if_pos (by omega), if_pos (by omega), if_pos (by omega), if_pos (by omega), e0, inRange_eq, rd_get hil]) ?_
    exact Ev.bind (Ev.now _) (Ev_ite_f (by simpa using c1) (Ev.now _))
   ·exact ⟨(fun z => by cases z), fun g => (c1 (g i hil (Nat.le_refl _)).1).elim⟩
def FormOk (a b : Int) (F B H : List Int) : Prop := ∃ i j : Nat, i ≤ 3 ∧ j ≤ 3 ∧ a = ((2 ^ i : Nat) : Int) ∧ b = ((2 ^ j : Nat) : Int) ∧ F.length = 2 ^ (i + j) ∧ B.length = 2 ^ (i + j) ∧ H.length = 2 ^ (i + j) ∧ (∀ x ∈ H, 0 ≤ x ∧ x ≤ 1) ∧ ∃ first, 1 ≤ first ∧ first ≤ 1000000000 ∧ first ∈ F ++ B ∧ Run (F ++ B) first
theorem p2inj0 {i j : Nat} (h : ((2 ^ i : Nat) : Int) = ((2 ^ j : Nat) : Int)) : i = j := (Nat.pow_right_inj (by omega : 1 < 2)).1 (Int.ofNat.inj h)
theorem nodup_take (l : List Int) : l.Nodup ↔ ∀ j (hj : j < l.length), l[j] ∉ l.take j := by
 rw [List.nodup_iff_pairwise_ne, List.pairwise_iff_getElem]
 constructor
 ·intro h j hj hm
  obtain ⟨i, hi, e⟩ := List.getElem_of_mem hm
  rw [List.length_take] at hi
  rw [List.getElem_take] at e
  exact h i j (by omega) hj (by omega) e
 ·intro h i j hi hj hij e
  refine h j hj ?_
  rw [← e]
  have : (l.take j)[i]'(by rw [List.length_take]; omega) = l[i] := List.getElem_take
  rw [← this]
  exact List.getElem_mem _
theorem pages_two (F B : List Int) (a b : Int) (H : List Int) (n : Nat) (hF : F.length = n) (hB : B.length = n) (h0 : 0 < n) (h1 : n ≤ 64) : ∃ v : Bool, Ev (fun k => spec_IsForm.j0 k (n : Int) false a b F B H) v ∧ Ev (fun k => impl_IsForm.j0 k false a b F B H) v ∧ (v = true ↔ ∃ first, 1 ≤ first ∧ first ≤ 1000000000 ∧ first ∈ F ++ B ∧ Run (F ++ B) first) := by
 have hlen : (F ++ B).length = 2 * n := by rw [List.length_append]; omega
 obtain ⟨m, m1, m2, m3⟩ := least_ev a b F B H (by omega) (by omega) (by omega)
 obtain ⟨v, v1, v2⟩ := specForm_loop (n : Int) (F ++ B) m (by omega) (F ++ B).length 0 (by omega)
 have hp : ((F ++ B).mergeSort (fun x y => decide (x ≤ y))).Perm (F ++ B) := List.mergeSort_perm _ _
 have hs := sortedAll (F ++ B)
 have hsl : ((F ++ B).mergeSort (fun x y => decide (x ≤ y))).length = 2 * n := by rw [hp.length_eq, hlen]
 obtain ⟨s, hse⟩ : ∃ s, (F ++ B).mergeSort (fun x y => decide (x ≤ y)) = s := ⟨_, rfl⟩
 rw [hse] at hp hs hsl
 obtain ⟨u, u1, u2⟩ := implForm_loop s (by omega) (by omega) s.length 0 (by omega)
 have hs0 : s[0]'(by omega) = m := by
  have g1 := m3 _ (hp.mem_iff.1 (List.getElem_mem (l := s) (n := 0) (by omega)))
  obtain ⟨q, hq, e⟩ := List.getElem_of_mem (hp.mem_iff.2 m2)
  have g2 : s[0]'(by omega) ≤ s[q] := by
   rcases Nat.eq_zero_or_pos q with z | z
   ·subst z; omega
   ·exact List.pairwise_iff_getElem.1 hs 0 q (by omega) hq z
  omega
 have main : (1 ≤ m ∧ m ≤ 1000000000 ∧ Run (F ++ B) m) ↔ ∃ first, 1 ≤ first ∧ first ≤ 1000000000 ∧ first ∈ F ++ B ∧ Run (F ++ B) first := by
  constructor
  ·rintro ⟨x, y, z⟩; exact ⟨m, x, y, m2, z⟩
  ·rintro ⟨f, x, y, z, r⟩
   have g1 := m3 f z
   have g2 := (r.1 m m2).1
   obtain rfl : f = m := by omega
   exact ⟨x, y, r⟩
 have hv : v = true ↔ (1 ≤ m ∧ m ≤ 1000000000 ∧ Run (F ++ B) m) := by
  rw [v2]
  have hw : 1 ≤ m → m ≤ 1000000000 → wrap64 (wrap64 (m + wrap64 (2 * (n : Int))) - 1) = m + (((F ++ B).length : Nat) : Int) - 1 := fun g1 g2 => by
   rw [w64 (x := 2 * (n : Int)) (by omega) (by omega), w64 (x := m + 2 * (n : Int)) (by omega) (by omega), w64 (by omega) (by omega), hlen]
   omega
  constructor
  ·rintro ⟨g, g1, g2⟩
   rw [hw g1 g2] at g
   refine ⟨g1, g2, fun x hx => ?_, (nodup_take _).2 (fun j hj => (g j hj (Nat.zero_le _)).2.2)⟩
   obtain ⟨j, hj, e⟩ := List.getElem_of_mem hx
   have := g j hj (Nat.zero_le _)
   exact ⟨by omega, by omega⟩
  ·rintro ⟨g1, g2, g3, g4⟩
   rw [hw g1 g2]
   exact ⟨fun j hj _ => ⟨(g3 _ (List.getElem_mem hj)).1, (g3 _ (List.getElem_mem hj)).2, (nodup_take _).1 g4 j hj⟩, g1, g2⟩
 have hu : u = true ↔ (1 ≤ m ∧ m ≤ 1000000000 ∧ Run (F ++ B) m) := by
  rw [u2]
  constructor
  ·intro g
   have g0 := (g 0 (by omega) (Nat.le_refl _)).1
   rw [hs0] at g0
   refine ⟨g0.1, g0.2, sorted_run hp (fun j hj => ?_)⟩
   have := (g j hj (Nat.zero_le _)).2
   rw [hs0, w64 (by omega) (by omega)] at this
   exact this
  ·rintro ⟨g1, g2, g3⟩ j hj _
   rw [hs0]
   exact ⟨⟨g1, g2⟩, by rw [run_sorted hp hs g3 j hj, w64 (by omega) (by omega)]⟩
 have huv : u = v := Bool.eq_iff_iff.2 (hu.trans hv.symm)
 subst huv
 refine ⟨u, ?_, ?_, hv.trans main⟩
 ·have ho : spec_l01Own.f F = some F := by
   unfold spec_l01Own.f
   simp only [Option.bind_some, List.length_nil, List.nil_append]
   rw [if_pos (by omega)]
  refine Ev.step (fun k => by rw [spec_IsForm.j0, if_neg (by simp), ho]) ?_
  exact Ev.bind (Ev.now _) (Ev_ite_t (by omega) (Ev.bind m1 v1))
 ·have hso : slices_Sorted_int64.f (F ++ B) = some s := by
   unfold slices_Sorted_int64.f
   rw [if_pos (by omega), if_pos (by omega), hse]
  refine Ev.step (fun k => by rw [impl_IsForm.j0, if_neg (by simp)]) ?_
  refine Ev.bind (concat2_ev (by omega) (by omega)) ?_
  rw [hso]
  exact Ev.bind (Ev.now _) u1
theorem isForm_two (a b : Int) (F B H : List Int) (hH : H.length ≤ 1048576) : ∃ v : Bool, Ev (fun k => spec_IsForm.f k a b F B H) v ∧ Ev (fun k => impl_IsForm.f k a b F B H) v ∧ (v = true ↔ FormOk a b F B H) := by
 have len : ∀ l : List Int, impl_length_int64.f l = some (l.length : Int) := fun l => rfl
 unfold spec_IsForm.f impl_IsForm.f
 rcases sheet0 a b with ⟨i, j, i1, j1, ha, hb, s1, s2⟩ | ⟨s1, s2⟩
 ·have h64 : 2 ^ (i + j) ≤ 64 := Nat.le_trans (Nat.pow_le_pow_right (by omega) (show i + j ≤ 6 by omega)) (by decide)
  have hpos : 0 < 2 ^ (i + j) := Nat.pow_pos (by omega)
  have hab : a * b = ((2 ^ (i + j) : Nat) : Int) := by rw [ha, hb, Nat.pow_add]; exact (Int.natCast_mul _ _).symm
  have hok : FormOk a b F B H → F.length = 2 ^ (i + j) ∧ B.length = 2 ^ (i + j) ∧ H.length = 2 ^ (i + j) ∧ (∀ x ∈ H, 0 ≤ x ∧ x ≤ 1) ∧ ∃ first, 1 ≤ first ∧ first ≤ 1000000000 ∧ first ∈ F ++ B ∧ Run (F ++ B) first := by
   rintro ⟨i', j', _, _, ha', hb', h1, h2, h3, h4, h5⟩
   obtain rfl := p2inj0 (ha.symm.trans ha')
   obtain rfl := p2inj0 (hb.symm.trans hb')
   exact ⟨h1, h2, h3, h4, h5⟩
  have hko : F.length = 2 ^ (i + j) → B.length = 2 ^ (i + j) → H.length = 2 ^ (i + j) → (∀ x ∈ H, 0 ≤ x ∧ x ≤ 1) → (∃ first, 1 ≤ first ∧ first ≤ 1000000000 ∧ first ∈ F ++ B ∧ Run (F ++ B) first) → FormOk a b F B H := fun h1 h2 h3 h4 h5 => ⟨i, j, i1, j1, ha, hb, h1, h2, h3, h4, h5⟩
  generalize 2 ^ (i + j) = n at h64 hpos hab hok hko
  have hw : wrap64 (a * b) = (n : Int) := by rw [hab]; exact w64 (by omega) (by omega)
  rw [s1, s2, hw, len, len, len]
  have sb : Ev (fun k => spec_IsForm.j0 k (n : Int) true a b F B H) false := Ev.step (f := fun _ => some false) (fun k => by rw [spec_IsForm.j0, if_pos rfl]) (Ev.now _)
  have ib : Ev (fun k => impl_IsForm.j0 k true a b F B H) false := Ev.step (f := fun _ => some false) (fun k => by rw [impl_IsForm.j0, if_pos rfl]) (Ev.now _)
  by_cases c1 : (F.length : Int) = (n : Int)
  ·by_cases c2 : (B.length : Int) = (n : Int)
   ·by_cases c3 : (H.length : Int) = (n : Int)
    ·have hwi := within_ev H 64 0 1 (by omega) (decide (∀ x ∈ H, 0 ≤ x ∧ x ≤ 1)) (by rw [decide_eq_true_iff]; exact ⟨fun h => ⟨by omega, h⟩, fun h => h.2⟩)
     rw [allIn_eq]
     by_cases c4 : ∀ x ∈ H, 0 ≤ x ∧ x ≤ 1
     ·rw [decide_eq_true c4] at hwi ⊢
      obtain ⟨v, v1, v2, v3⟩ := pages_two F B a b H n (by omega) (by omega) hpos h64
      refine ⟨v, Ev.bind (Ev.now _) (Ev_ite_t rfl (Ev_ite_t c1 (Ev_ite_t c2 (Ev_ite_t c3 (Ev.bind hwi v1))))), Ev.bind (Ev.now _) (Ev_ite_t rfl (Ev.bind (Ev.now _) (Ev_ite_t c1 (Ev.bind (Ev.now _) (Ev_ite_t c2 (Ev.bind (Ev.now _) (Ev_ite_t c3 (Ev.bind (Ev.now _) v2)))))))), ?_⟩
      rw [v3]
      exact ⟨fun h => hko (by omega) (by omega) (by omega) c4 h, fun h => (hok h).2.2.2.2⟩
     ·rw [decide_eq_false c4] at hwi ⊢
      exact ⟨false, Ev.bind (Ev.now _) (Ev_ite_t rfl (Ev_ite_t c1 (Ev_ite_t c2 (Ev_ite_t c3 (Ev.bind hwi sb))))), Ev.bind (Ev.now _) (Ev_ite_t rfl (Ev.bind (Ev.now _) (Ev_ite_t c1 (Ev.bind (Ev.now _) (Ev_ite_t c2 (Ev.bind (Ev.now _) (Ev_ite_t c3 (Ev.bind (Ev.now _) ib)))))))), (fun z => by cases z), fun h => (c4 (hok h).2.2.2.1).elim⟩
    ·exact ⟨false, Ev.bind (Ev.now _) (Ev_ite_t rfl (Ev_ite_t c1 (Ev_ite_t c2 (Ev_ite_f c3 sb)))), Ev.bind (Ev.now _) (Ev_ite_t rfl (Ev.bind (Ev.now _) (Ev_ite_t c1 (Ev.bind (Ev.now _) (Ev_ite_t c2 (Ev.bind (Ev.now _) (Ev_ite_f c3 ib))))))), (fun z => by cases z), fun h => (c3 (by rw [(hok h).2.2.1])).elim⟩
   ·exact ⟨false, Ev.bind (Ev.now _) (Ev_ite_t rfl (Ev_ite_t c1 (Ev_ite_f c2 sb))), Ev.bind (Ev.now _) (Ev_ite_t rfl (Ev.bind (Ev.now _) (Ev_ite_t c1 (Ev.bind (Ev.now _) (Ev_ite_f c2 ib))))), (fun z => by cases z), fun h => (c2 (by rw [(hok h).2.1])).elim⟩
  ·exact ⟨false, Ev.bind (Ev.now _) (Ev_ite_t rfl (Ev_ite_f c1 sb)), Ev.bind (Ev.now _) (Ev_ite_t rfl (Ev.bind (Ev.now _) (Ev_ite_f c1 ib))), (fun z => by cases z), fun h => (c1 (by rw [(hok h).1])).elim⟩
 ·rw [s1, s2]
  have sb : Ev (fun k => spec_IsForm.j0 k (wrap64 (a * b)) true a b F B H) false := Ev.step (f := fun _ => some false) (fun k => by rw [spec_IsForm.j0, if_pos rfl]) (Ev.now _)
  refine ⟨false, Ev.bind (Ev.now _) (Ev_ite_f (by simp) sb), Ev.bind (Ev.now _) (Ev_ite_f (by simp) (Ev.now _)), (fun z => by cases z), ?_⟩
  rintro ⟨i, j, i1, j1, ha, hb, _⟩
  rw [ha, hb, sheet0_ok i1 j1] at s2
  cases s2
theorem mem_at {l : List Int} {i : Nat} {v : Int} (hi : i < l.length) (h : l[i] = v) : v ∈ l := by rw [← h]; exact List.getElem_mem hi
theorem index_ev (l : List Int) (v : Int) (hl : l.length ≤ 1000000) : (∃ i : Nat, ∃ hi : i < l.length, l[i] = v ∧ (∀ j (hj : j < l.length), j < i → l[j] ≠ v) ∧ Ev (fun k => slices_Index_int64_int64.f k l v) (i : Int)) ∨ (v ∉ l ∧ Ev (fun k => slices_Index_int64_int64.f k l v) (-1)) := by
 have loop : ∀ (d i : Nat), i + d = l.length → (∀ j (hj : j < l.length), j < i → l[j] ≠ v) → (∃ m : Nat, ∃ hm : m < l.length, l[m] = v ∧ (∀ j (hj : j < l.length), j < m → l[j] ≠ v) ∧ Ev (fun k => slices_Index_int64_int64.l0 k l v (l.length : Int) (i : Int)) (m : Int)) ∨ (v ∉ l ∧ Ev (fun k => slices_Index_int64_int64.l0 k l v (l.length : Int) (i : Int)) (-1)) := by
  intro d
  induction d with
  | zero =>
   intro i hi h
   refine .inr ⟨fun hm => ?_, Ev.step (f := fun _ => some (-1)) (fun k => by rw [slices_Index_int64_int64.l0, if_neg (by omega)]) (Ev.now _)⟩
   obtain ⟨j, hj, e⟩ := List.getElem_of_mem hm
   exact h j hj (by omega) e
  | succ d ih =>
   intro i hi h
   have hil : i < l.length := by omega
   by_cases e : v = l[i]
   ·exact .inl ⟨i, hil, e.symm, h, Ev.step (f := fun _ => some (i : Int)) (fun k => by rw [slices_Index_int64_int64.l0, if_pos (by omega), if_pos (by omega), if_pos (by omega), rd_get hil, if_pos e]) (Ev.now _)⟩
   ·have st : ∀ r, Ev (fun k => slices_Index_int64_int64.l0 k l v (l.length : Int) ((i + 1 : Nat) : Int)) r → Ev (fun k => slices_Index_int64_int64.l0 k l v (l.length : Int) (i : Int)) r := fun r hr =>
     Ev.step (fun k => by rw [slices_Index_int64_int64.l0, if_pos (by omega), if_pos (by omega), if_pos (by omega), rd_get hil, if_neg e, w64n i (by omega)]) hr
    rcases ih (i + 1) (by omega) (fun j hj hji => by
     by_cases z : j = i
     ·subst z; exact fun y => e y.symm
     ·exact h j hj (by omega)) with ⟨m, hm, h1, h2, h3⟩ | ⟨h1, h2⟩
    ·exact .inl ⟨m, hm, h1, h2, st _ h3⟩
    ·exact .inr ⟨h1, st _ h2⟩
 exact loop l.length 0 (by omega) (fun j _ hj => by omega)
theorem placeOfPage_two (a b : Int) (F B H : List Int) (p : Int) (hH : H.length ≤ 1048576) : ∃ r, Ev (fun k => spec_PlaceOfPage.f k a b F B H p) r ∧ Ev (fun k => impl_PlaceOfPage.f k a b F B H p) r ∧ (r.2.2.2 = 0 → FormOk a b F B H ∧ ∃ i : Nat, (r = (0, Int.tmod (i : Int) a, wrap64 (Int.tdiv (i : Int) a), 0) ∧ ∃ hi : i < F.length, F[i] = p) ∨ (r = (1, wrap64 (wrap64 (a - 1) - Int.tmod (i : Int) a), wrap64 (Int.tdiv (i : Int) a), 0) ∧ ∃ hi : i < B.length, B[i] = p)) := by
 obtain ⟨v, v1, v2, v3⟩ := isForm_two a b F B H hH
 cases v with
 | false =>
  refine ⟨(0, 0, 0, 1), ?_, ?_, fun z => by cases z⟩
  ·unfold spec_PlaceOfPage.f
   exact Ev.bind v1 (Ev_ite_f (by simp) (Ev.now _))
  ·unfold impl_PlaceOfPage.f
   exact Ev.bind v2 (Ev_ite_f (by simp) (Ev.now _))
 | true =>
  have hok := v3.1 rfl
  obtain ⟨i, j, i1, j1, ha, hb, hF, hB, _, _, f, _, _, _, _, hnd⟩ := v3.1 rfl
  have h64 : 2 ^ (i + j) ≤ 64 := Nat.le_trans (Nat.pow_le_pow_right (by omega) (show i + j ≤ 6 by omega)) (by decide)
  have hab : wrap64 (a * b) = ((2 ^ (i + j) : Nat) : Int) := by
   have e : a * b = ((2 ^ (i + j) : Nat) : Int) := by rw [ha, hb, Nat.pow_add]; exact (Int.natCast_mul _ _).symm
   rw [e]; exact w64 (by omega) (by omega)
  have ha0 : a ≠ 0 := by
   have : 0 < 2 ^ i := Nat.pow_pos (by omega)
   rw [ha]; omega
  clear ha hb i1 j1
  generalize 2 ^ (i + j) = n at h64 hab hF hB
  have hdis : ∀ x, x ∈ F → x ∈ B → False := fun x h1 h2 => (List.nodup_append.1 hnd).2.2 x h1 x h2 rfl
  have skip : ∀ (m : Nat) r, m ≤ n → (∀ q (hq : q < n), q < m → F[q]'(by omega) ≠ p ∧ B[q]'(by omega) ≠ p) → Ev (fun k => spec_PlaceOfPage.l0 k p (m : Int) a b F B H) r → Ev (fun k => spec_PlaceOfPage.l0 k p 0 a b F B H) r := by
   intro m
   induction m with
   | zero => intro r _ _ h; exact h
   | succ m ih =>
    intro r hm hq h
    refine ih r (by omega) (fun q h1 h2 => hq q h1 (by omega)) ?_
    have hmF : m < F.length := by omega
    have hmB : m < B.length := by omega
    have g := hq m (by omega) (by omega)
    refine Ev.step (fun k => ?_) h
    rw [spec_PlaceOfPage.l0, hab, if_pos (by omega), if_neg ha0, if_pos (by omega), if_pos (by omega), rd_get hmF, if_neg g.1, if_pos (by omega), rd_get hmB, if_neg g.2, w64n m (by omega)]
  have sp : ∀ r, Ev (fun k => spec_PlaceOfPage.l0 k p 0 a b F B H) r → Ev (fun k => spec_PlaceOfPage.f k a b F B H p) r := fun r h => by
   unfold spec_PlaceOfPage.f
   exact Ev.bind v1 (Ev_ite_t rfl h)
  rcases index_ev F p (by omega) with ⟨m, hm, e1, e2, e3⟩ | ⟨e1, e3⟩
  ·refine ⟨(0, Int.tmod (m : Int) a, wrap64 (Int.tdiv (m : Int) a), 0), sp _ (skip m _ (by omega) (fun q hq hqm => ⟨e2 q (by omega) hqm, fun z => hdis p (mem_at hm e1) (mem_at _ z)⟩) ?_), ?_, fun _ => ⟨hok, m, .inl ⟨rfl, hm, e1⟩⟩⟩
   ·refine Ev.step (f := fun _ => some (0, Int.tmod (m : Int) a, wrap64 (Int.tdiv (m : Int) a), 0)) (fun k => ?_) (Ev.now _)
    rw [spec_PlaceOfPage.l0, hab, if_pos (by omega), if_neg ha0, if_pos (by omega), if_pos (by omega), rd_get hm, if_pos e1]
   ·unfold impl_PlaceOfPage.f
    exact Ev.bind v2 (Ev_ite_t rfl (Ev.bind e3 (Ev_ite_t (by omega) (Ev_ite_f ha0 (Ev.now _)))))
  ·rcases index_ev B p (by omega) with ⟨m, hm, g1, g2, g3⟩ | ⟨g1, g3⟩
   ·refine ⟨(1, wrap64 (wrap64 (a - 1) - Int.tmod (m : Int) a), wrap64 (Int.tdiv (m : Int) a), 0), sp _ (skip m _ (by omega) (fun q hq hqm => ⟨fun z => e1 (mem_at _ z), g2 q (by omega) hqm⟩) ?_), ?_, fun _ => ⟨hok, m, .inr ⟨rfl, hm, g1⟩⟩⟩
    ·have hmF : m < F.length := by omega
     refine Ev.step (f := fun _ => some (1, wrap64 (wrap64 (a - 1) - Int.tmod (m : Int) a), wrap64 (Int.tdiv (m : Int) a), 0)) (fun k => ?_) (Ev.now _)
     rw [spec_PlaceOfPage.l0, hab, if_pos (by omega), if_neg ha0, if_pos (by omega), if_pos (by omega), rd_get hmF, if_neg (fun z => e1 (mem_at _ z)), if_pos (by omega), rd_get hm, if_pos g1]
    ·unfold impl_PlaceOfPage.f
     exact Ev.bind v2 (Ev_ite_t rfl (Ev.bind e3 (Ev_ite_f (by omega) (Ev.bind g3 (Ev_ite_t (by omega) (Ev_ite_f ha0 (Ev.now _)))))))
   ·refine ⟨(0, 0, 0, 4), sp _ (skip n _ (Nat.le_refl _) (fun q hq hqm => ⟨fun z => e1 (mem_at _ z), fun z => g1 (mem_at _ z)⟩) ?_), ?_, fun z => by cases z⟩
    ·exact Ev.step (f := fun _ => some (0, 0, 0, 4)) (fun k => by rw [spec_PlaceOfPage.l0, hab, if_neg (by omega)]) (Ev.now _)
    ·unfold impl_PlaceOfPage.f
     exact Ev.bind v2 (Ev_ite_t rfl (Ev.bind e3 (Ev_ite_f (by omega) (Ev.bind g3 (Ev_ite_f (by omega) (Ev.now _))))))
/-- A form's heads, turned: the cell that lies behind each cell. -/
def TH (A n : Nat) (H : List Int) : List Int := (List.range n).map (fun m => rd H ((m / A * A + A - 1 - m % A : Nat) : Int))
theorem TH_length (A n : Nat) (H : List Int) : (TH A n H).length = n := by simp [TH]
theorem TH_succ (A n : Nat) (H : List Int) : TH A (n + 1) H = TH A n H ++ [rd H ((n / A * A + A - 1 - n % A : Nat) : Int)] := by simp [TH, List.range_succ]
theorem divmod_at {A y x : Nat} (h : x < A) : (y * A + x) / A = y ∧ (y * A + x) % A = x := by
 constructor
 ·rw [Nat.mul_comm, Nat.mul_add_div (by omega), Nat.div_eq_of_lt h, Nat.add_zero]
 ·rw [Nat.mul_comm, Nat.mul_add_mod, Nat.mod_eq_of_lt h]
theorem cell_lt {A C m : Nat} (hA : 0 < A) (h : m < A * C) : m / A * A + A - 1 - m % A < A * C ∧ m / A < C ∧ m % A < A := by
 have h1 : m / A < C := Nat.div_lt_of_lt_mul h
 have h2 := Nat.mod_lt m hA
 have h3 : (m / A + 1) * A ≤ C * A := Nat.mul_le_mul_right A h1
 rw [Nat.add_mul, Nat.one_mul, Nat.mul_comm C A] at h3
 exact ⟨by omega, h1, h2⟩
theorem own_some (l : List Int) (h : l.length ≤ 1000000) : spec_l01Own.f l = some l := by
 unfold spec_l01Own.f
 simp only [Option.bind_some, List.length_nil, List.nil_append]
 rw [if_pos (by omega)]
theorem clone_some (l : List Int) (h0 : 0 < l.length) (h : l.length ≤ 1000000) : slices_Clone_int64_int64.f l = some l := by
 unfold slices_Clone_int64_int64.f
 rw [if_pos h0, if_pos h]
theorem specTurn_loop (A C : Nat) (b : Int) (F B H : List Int) (hA : 0 < A) (hA8 : A ≤ 8) (hC8 : C ≤ 8) (hb : b = (C : Int)) (hF : F.length = A * C) (hB : B.length = A * C) (hH : H.length = A * C) : ∀ (d m : Nat), m + d = A * C → Ev (fun k => spec_TurnForm.l0 k (TH A m H) (m : Int) (A : Int) b F B H) ((A : Int), b, B, F, TH A (A * C) H, 0) := by
 have h64 : A * C ≤ 64 := Nat.mul_le_mul hA8 hC8
 have hab : wrap64 ((A : Int) * b) = ((A * C : Nat) : Int) := by
  have e : (A : Int) * b = ((A * C : Nat) : Int) := by rw [hb]; exact (Int.natCast_mul _ _).symm
  rw [e]; exact w64 (by omega) (by omega)
 intro d
 induction d with
 | zero =>
  intro m hm
  obtain rfl : m = A * C := by omega
  refine Ev.step (f := fun _ => some ((A : Int), b, B, F, TH A (A * C) H, 0)) (fun k => ?_) (Ev.now _)
  rw [spec_TurnForm.l0, hab, if_neg (by omega), own_some B (by omega), own_some F (by omega)]
  rfl
 | succ d ih =>
  intro m hm
  have hmn : m < A * C := by omega
  obtain ⟨g1, g2, g3⟩ := cell_lt hA hmn
  have hle : m / A * A ≤ m := Nat.div_mul_le_self m A
  have hs := TH_succ A m H
  have e1' : Int.tdiv (m : Int) (A : Int) = ((m / A : Nat) : Int) := by
   rw [Int.tdiv_eq_ediv_of_nonneg (by omega), ← Int.natCast_ediv]
  have e2 : Int.tmod (m : Int) (A : Int) = ((m % A : Nat) : Int) := by
   rw [Int.tmod_eq_emod_of_nonneg (by omega), ← Int.natCast_emod]
  generalize m / A = q at g1 g2 hle hs e1'
  generalize m % A = s at g1 g3 hs e2
  have e1 : wrap64 (Int.tdiv (m : Int) (A : Int)) = (q : Int) := by rw [e1']; exact w64 (by omega) (by omega)
  have e3 : (q : Int) * (A : Int) = ((q * A : Nat) : Int) := (Int.natCast_mul _ _).symm
  generalize q * A = qA at g1 hle hs e3
  have e4 : wrap64 (wrap64 (wrap64 (wrap64 (wrap64 (Int.tdiv (m : Int) (A : Int)) * (A : Int)) + (A : Int)) - 1) - Int.tmod (m : Int) (A : Int)) = ((qA + A - 1 - s : Nat) : Int) := by
   rw [e1, e2, e3, w64 (x := (qA : Int)) (by omega) (by omega), w64 (x := (qA : Int) + (A : Int)) (by omega) (by omega), w64 (x := (qA : Int) + (A : Int) - 1) (by omega) (by omega), w64 (by omega) (by omega)]
   omega
  clear e1 e2 e3 e1' g2 g3 hle
  generalize qA + A - 1 - s = p at g1 hs e4
  replace e4 := Aside0.mk e4
  replace hab := Aside0.mk hab
  have hl := TH_length A m H
  have st := ih (m + 1) (by omega)
  rw [hs] at st
  have f1 : (m : Int) < ((A * C : Nat) : Int) := by omega
  have f2 : ¬ (A : Int) = 0 := by omega
  have f3 : 0 ≤ (p : Int) := by omega
  have f4 : (p : Int) < (H.length : Int) := by omega
  have f5 : (TH A m H).length < 17592186044416 := by omega
  have f6 := w64n m (by omega)
  refine Ev.step (fun k => ?_) st
  rw [spec_TurnForm.l0, hab.out, if_pos f1, if_neg f2, e4.out, if_pos f3, if_pos f4, if_pos f5, f6]
theorem implTurn_loop (A C : Nat) (F B H : List Int) (F' B' : List Int) (hA : 0 < A) (hA8 : A ≤ 8) (hC8 : C ≤ 8) (hH : H.length = A * C) : ∀ (d y : Nat), y + d = C → Ev (fun k => impl_TurnForm.l0 k (C : Int) (y : Int) (A : Int) (C : Int) F B H (A : Int) (C : Int) F' B' (TH A (y * A) H)) ((A : Int), (C : Int), F', B', TH A (A * C) H, 0) := by
 have h64 : A * C ≤ 64 := Nat.mul_le_mul hA8 hC8
 intro d
 induction d with
 | zero =>
  intro y hy
  obtain rfl : y = C := by omega
  rw [Nat.mul_comm y A]
  exact Ev.step (f := fun _ => some ((A : Int), (y : Int), F', B', TH A (A * y) H, 0)) (fun k => by rw [impl_TurnForm.l0, if_neg (by omega)]) (Ev.now _)
 | succ d ih =>
  intro y hy
  have hyC : y < C := by omega
  have hyA : (y + 1) * A ≤ C * A := Nat.mul_le_mul_right A hyC
  rw [Nat.mul_comm C A] at hyA
  have hy1 : (y + 1) * A = y * A + A := Nat.succ_mul y A
  have inner : ∀ (e x : Nat), x + e = A → Ev (fun k => impl_TurnForm.l1 k (y : Int) (C : Int) (y : Int) (A : Int) (x : Int) (A : Int) (C : Int) F B H (A : Int) (C : Int) F' B' (TH A (y * A + x) H)) ((A : Int), (C : Int), F', B', TH A (A * C) H, 0) := by
   intro e
   induction e with
   | zero =>
    intro x hx
    obtain rfl : x = A := by omega
    refine Ev.step (fun k => ?_) (ih (y + 1) (by omega))
    rw [impl_TurnForm.l1, if_neg (by omega), w64n y (by omega), hy1]
   | succ e ihe =>
    intro x hx
    have hxA : x < A := by omega
    obtain ⟨q1, q2⟩ := divmod_at (y := y) hxA
    have hl := TH_length A (y * A + x) H
    have e3 : (y : Int) * (A : Int) = ((y * A : Nat) : Int) := (Int.natCast_mul _ _).symm
    have e4 : wrap64 (wrap64 (wrap64 (wrap64 ((y : Int) * (A : Int)) + (A : Int)) - 1) - (x : Int)) = ((y * A + A - 1 - x : Nat) : Int) := by
     rw [e3, w64 (x := ((y * A : Nat) : Int)) (by omega) (by omega), w64 (x := ((y * A : Nat) : Int) + (A : Int)) (by omega) (by omega), w64 (x := ((y * A : Nat) : Int) + (A : Int) - 1) (by omega) (by omega), w64 (by omega) (by omega)]
     omega
    have hs : TH A (y * A + (x + 1)) H = TH A (y * A + x) H ++ [rd H ((y * A + A - 1 - x : Nat) : Int)] := by
     rw [← Nat.add_assoc, TH_succ, q1, q2]
    have h2 := ihe (x + 1) (by omega)
    rw [hs] at h2
    refine Ev.step (fun k => ?_) h2
    rw [impl_TurnForm.l1, if_pos (by omega), impl_backPlace.f, Option.bind_some, e4, if_pos (by omega), if_pos (by omega), if_pos (by omega), w64n x (by omega)]
  refine Ev.step (fun k => ?_) (inner A 0 (by omega))
  rw [impl_TurnForm.l0, if_pos (by omega), Nat.add_zero]
  rfl
theorem formOk_sides {a b : Int} {F B H : List Int} (h : FormOk a b F B H) : ∃ A C : Nat, 0 < A ∧ A ≤ 8 ∧ 0 < C ∧ C ≤ 8 ∧ a = (A : Int) ∧ b = (C : Int) ∧ F.length = A * C ∧ B.length = A * C ∧ H.length = A * C := by
 obtain ⟨i, j, i1, j1, ha, hb, hF, hB, hH, _⟩ := h
 have p : ∀ q : Nat, q ≤ 3 → 0 < 2 ^ q ∧ 2 ^ q ≤ 8 := fun q hq => ⟨Nat.pow_pos (by omega), Nat.le_trans (Nat.pow_le_pow_right (by omega) hq) (by decide)⟩
 rw [Nat.pow_add] at hF hB hH
 exact ⟨2 ^ i, 2 ^ j, (p i i1).1, (p i i1).2, (p j j1).1, (p j j1).2, ha, hb, hF, hB, hH⟩
theorem turnForm_two (a b : Int) (F B H : List Int) (hl : H.length ≤ 1048576) : ∃ r, Ev (fun k => spec_TurnForm.f k a b F B H) r ∧ Ev (fun k => impl_TurnForm.f k a b F B H) r ∧ ((r = (0, 0, [], [], [], 1) ∧ ¬ FormOk a b F B H) ∨ (FormOk a b F B H ∧ ∃ A C : Nat, 0 < A ∧ A ≤ 8 ∧ C ≤ 8 ∧ a = (A : Int) ∧ b = (C : Int) ∧ F.length = A * C ∧ B.length = A * C ∧ H.length = A * C ∧ r = (a, b, B, F, TH A (A * C) H, 0))) := by
 obtain ⟨v, v1, v2, v3⟩ := isForm_two a b F B H hl
 cases v with
 | false =>
  refine ⟨(0, 0, [], [], [], 1), ?_, ?_, .inl ⟨rfl, fun h => by cases v3.2 h⟩⟩
  ·unfold spec_TurnForm.f
   exact Ev.bind v1 (Ev_ite_f (by simp) (Ev.now _))
  ·unfold impl_TurnForm.f
   exact Ev.bind v2 (Ev_ite_f (by simp) (Ev.now _))
 | true =>
  have hok := v3.1 rfl
  obtain ⟨A, C, hA, hA8, hC, hC8, ha, hb, hF, hB, hH⟩ := formOk_sides hok
  have h64 : A * C ≤ 64 := Nat.mul_le_mul hA8 hC8
  have h0 : 0 < A * C := Nat.mul_pos hA hC
  refine ⟨(a, b, B, F, TH A (A * C) H, 0), ?_, ?_, .inr ⟨hok, A, C, hA, hA8, hC8, ha, hb, hF, hB, hH, rfl⟩⟩
  ·unfold spec_TurnForm.f
   refine Ev.bind v1 (Ev_ite_t rfl ?_)
   have := specTurn_loop A C b F B H hA hA8 hC8 hb hF hB hH (A * C) 0 (by omega)
   subst ha
   exact this
  ·unfold impl_TurnForm.f
   have := implTurn_loop A C F B H B F hA hA8 hC8 hH C 0 (by omega)
   rw [Nat.zero_mul] at this
   subst ha hb
   exact Ev.bind v2 (Ev_ite_t rfl (Ev.bind (Ev.congr (fun _ => clone_some B (by omega) (by omega)) (Ev.now _)) (Ev.bind (Ev.congr (fun _ => clone_some F (by omega) (by omega)) (Ev.now _)) this)))
theorem TH_get {A C : Nat} {H : List Int} (hA : 0 < A) (hH : H.length = A * C) (m : Nat) (hm : m < A * C) : (TH A (A * C) H)[m]? = some (H[m / A * A + A - 1 - m % A]'(by rw [hH]; exact (cell_lt hA hm).1)) := by
 obtain ⟨g1, _, _⟩ := cell_lt hA hm
 unfold TH
 rw [List.getElem?_map, List.getElem?_range hm, Option.map_some, rd_get (by omega)]
theorem TH_twice {A C : Nat} {H : List Int} (hA : 0 < A) (hH : H.length = A * C) : TH A (A * C) (TH A (A * C) H) = H := by
 apply List.ext_getElem?
 intro m
 by_cases hm : m < A * C
 ·rw [TH_get hA (TH_length _ _ _) m hm, List.getElem?_eq_getElem (by omega)]
  obtain ⟨g1, _, g3⟩ := cell_lt hA hm
  have h := TH_get hA hH (m / A * A + A - 1 - m % A) g1
  rw [List.getElem?_eq_getElem (by rw [TH_length]; exact g1)] at h
  rw [h]
  have e : m / A * A + A - 1 - m % A = m / A * A + (A - 1 - m % A) := by omega
  obtain ⟨q1, q2⟩ := divmod_at (A := A) (y := m / A) (x := A - 1 - m % A) (by omega)
  have hd := Nat.div_add_mod m A
  rw [Nat.mul_comm] at hd
  congr 1
  congr 1
  rw [e, q1, q2]
  omega
 ·rw [List.getElem?_eq_none (by rw [TH_length]; omega), List.getElem?_eq_none (by omega)]
theorem run_swap {F B : List Int} {first : Int} (h : Run (F ++ B) first) : Run (B ++ F) first := by
 refine ⟨fun x hx => ?_, (List.perm_append_comm (l₁ := F) (l₂ := B)).nodup_iff.1 h.2⟩
 have := h.1 x ((List.perm_append_comm (l₁ := F) (l₂ := B)).mem_iff.2 hx)
 rw [List.length_append] at this ⊢
 omega
theorem formOk_turn {a b : Int} {F B H : List Int} {A C : Nat} (hA : 0 < A) (hH : H.length = A * C) (h : FormOk a b F B H) : FormOk a b B F (TH A (A * C) H) := by
 obtain ⟨i, j, i1, j1, ha, hb, h1, h2, h3, h4, f, f1, f2, f3, f4⟩ := h
 refine ⟨i, j, i1, j1, ha, hb, h2, h1, by rw [TH_length]; omega, fun x hx => ?_, f, f1, f2, (List.perm_append_comm (l₁ := F) (l₂ := B)).mem_iff.1 f3, run_swap f4⟩
 obtain ⟨m, hm, e⟩ := List.getElem_of_mem hx
 rw [TH_length] at hm
 have := TH_get hA hH m hm
 rw [List.getElem?_eq_getElem (by rw [TH_length]; exact hm)] at this
 injection this with this
 rw [← e, this]
 exact h4 _ (List.getElem_mem _)
def EvP {α : Type} (f : Nat → Option α) (P : α → Prop) : Prop := ∃ r, Ev f r ∧ P r
theorem EvP.bind {α β : Type} {g : Nat → Option α} {f : Nat → α → Option β} {a : α} {P : β → Prop} (h : Ev g a) (k : EvP (fun n => f n a) P) : EvP (fun n => (g n).bind (f n)) P := by
 obtain ⟨r, k, p⟩ := k
 exact ⟨r, Ev.bind h k, p⟩
theorem EvP.ite_t {α : Type} {c : Prop} [Decidable c] {f g : Nat → Option α} {P : α → Prop} (h : c) (k : EvP f P) : EvP (fun n => if c then f n else g n) P := by
 obtain ⟨r, k, p⟩ := k
 exact ⟨r, Ev_ite_t h k, p⟩
theorem EvP.ite_f {α : Type} {c : Prop} [Decidable c] {f g : Nat → Option α} {P : α → Prop} (h : ¬ c) (k : EvP g P) : EvP (fun n => if c then f n else g n) P := by
 obtain ⟨r, k, p⟩ := k
 exact ⟨r, Ev_ite_f h k, p⟩
theorem EvP.now {α : Type} {a : α} {P : α → Prop} (p : P a) : EvP (fun _ => some a) P := ⟨a, Ev.now a, p⟩
theorem EvP.step {α : Type} {f g : Nat → Option α} {P : α → Prop} (h : ∀ k, f (k + 1) = g k) (k : EvP g P) : EvP f P := by
 obtain ⟨r, k, p⟩ := k
 exact ⟨r, Ev.step h k, p⟩
theorem Ev.eq {α : Type} {x : Option α} {a : α} (h : x = some a) : Ev (fun _ : Nat => x) a := Ev.congr (fun _ => h) (Ev.now _)
def Src (c : List Int) (a s : Int) : Prop := c.length ≤ 4096 ∧ (∀ x ∈ c, 0 ≤ x ∧ x ≤ 255) ∧ 0 ≤ a ∧ a ≤ c.length ∧ 0 ≤ s ∧ s < 2147483647
theorem tmod_range {x m : Int} (h : 0 ≤ x) (hm : 0 < m) : 0 ≤ Int.tmod x m ∧ Int.tmod x m < m := ⟨Int.tmod_nonneg _ h, Int.tmod_lt_of_pos _ hm⟩
theorem rd_byte {c : List Int} (hc : ∀ x ∈ c, 0 ≤ x ∧ x ≤ 255) (i : Int) : 0 ≤ rd c i ∧ rd c i ≤ 255 := by
 unfold rd
 by_cases h : i.toNat < c.length
 ·simp only [List.getD_eq_getElem?_getD, List.getElem?_eq_getElem h, Option.getD_some]
  exact hc _ (List.getElem_mem h)
 ·simp only [List.getD_eq_getElem?_getD, List.getElem?_eq_none (Nat.le_of_not_lt h), Option.getD_none]
  omega
theorem next_ok {c : List Int} {a s : Int} (h : Src c a s) (n : Int) (hn : n ≤ 9000000000000000000) :
  ∃ r a' s', spec_l01Next.f c a s n = some (r, a', s') ∧ Src c a' s' ∧ 0 ≤ r ∧ (1 ≤ n → r < n) := by
 obtain ⟨h1, h2, h3, h4, h5, h6⟩ := h
 unfold spec_l01Next.f
 by_cases hn1 : n ≤ 1
 ·rw [if_pos hn1]
  exact ⟨0, a, s, rfl, ⟨h1, h2, h3, h4, h5, h6⟩, by omega, by omega⟩
 ·rw [if_neg hn1]
  have e1 : wrap64 (wrap64 (s * 48271) + 61) = s * 48271 + 61 := by rw [w64 (x := s * 48271) (by omega) (by omega), w64 (by omega) (by omega)]
  rw [e1]
  have m1 := tmod_range (x := s * 48271 + 61) (m := 2147483647) (by omega) (by omega)
  generalize Int.tmod (s * 48271 + 61) 2147483647 = s1 at *
  have d1 : 0 ≤ Int.tdiv s1 31 ∧ Int.tdiv s1 31 ≤ 2147483647 := by
   rw [Int.tdiv_eq_ediv_of_nonneg m1.1]; omega
  rw [w64 (x := Int.tdiv s1 31) (by omega) (by omega)]
  generalize Int.tdiv s1 31 = q at *
  by_cases ha : a < (c.length : Int)
  ·have e2 : wrap64 (a + 1) = a + 1 := w64 (by omega) (by omega)
   have e3 : wrap64 (a + 1 - 1) = a := by rw [w64 (by omega) (by omega)]; omega
   have b1 := rd_byte h2 a
   rw [if_pos ha, if_pos h3, e2, e3, w64 (x := rd c a) (by omega) (by omega), w64 (x := q + rd c a) (by omega) (by omega)]
   have r1 := tmod_range (x := rd c a) (m := n) b1.1 (by omega)
   have r2 := tmod_range (x := q + rd c a) (m := n) (by omega) (by omega)
   have hs : Src c (a + 1) s1 := ⟨h1, h2, by omega, by omega, m1.1, m1.2⟩
   by_cases hb : n ≤ 256
   ·rw [if_pos hb]
    by_cases hc : Int.tmod (a + 1) 2 = 0
    ·rw [if_pos hc, if_pos h3, if_pos ha, if_neg (by omega)]
     exact ⟨_, _, _, rfl, hs, r1.1, fun _ => r1.2⟩
    ·rw [if_neg hc, if_neg (by omega)]
     exact ⟨_, _, _, rfl, hs, r2.1, fun _ => r2.2⟩
   ·rw [if_neg hb, if_neg (by omega)]
    exact ⟨_, _, _, rfl, hs, r2.1, fun _ => r2.2⟩
  ·rw [if_neg ha, if_neg (by omega)]
   have r1 := tmod_range (x := q) (m := n) (by omega) (by omega)
   exact ⟨_, _, _, rfl, ⟨h1, h2, h3, h4, m1.1, m1.2⟩, r1.1, fun _ => r1.2⟩
theorem from_ok (c : List Int) (hc : c.length ≤ 4096) (hb : ∀ x ∈ c, 0 ≤ x ∧ x ≤ 255) : ∃ a s, Ev (fun k => spec_l01From.f k c) (c, a, s) ∧ Src c a s := by
 have loop : ∀ (d i : Nat), i + d = c.length → ∀ s : Int, 0 ≤ s → s < 2147483647 → ∃ s', 0 ≤ s' ∧ s' < 2147483647 ∧ Ev (fun k => spec_l01From.l0 k c (i : Int) c 0 s) (c, 0, s') := by
  intro d
  induction d with
  | zero =>
   intro i hi s h0 h1
   exact ⟨s, h0, h1, Ev.step (f := fun _ => some (c, 0, s)) (fun k => by rw [spec_l01From.l0, if_neg (by omega)]) (Ev.now _)⟩
  | succ d ih =>
   intro i hi s h0 h1
   by_cases h64 : i < 64
   ·have b1 := rd_byte hb (i : Int)
    have e1 : wrap64 (wrap64 (s * 71) + wrap64 (rd c (i : Int))) = s * 71 + rd c (i : Int) := by
     rw [w64 (x := s * 71) (by omega) (by omega), w64 (x := rd c (i : Int)) (by omega) (by omega), w64 (by omega) (by omega)]
    have m1 := tmod_range (x := s * 71 + rd c (i : Int)) (m := 2147483647) (by omega) (by omega)
    obtain ⟨s', g0, g1, g2⟩ := ih (i + 1) (by omega) (Int.tmod (s * 71 + rd c (i : Int)) 2147483647) m1.1 m1.2
    refine ⟨s', g0, g1, Ev.step (fun k => ?_) g2⟩
    rw [spec_l01From.l0, if_pos (by omega), if_pos (by omega), if_pos (by omega), w64n i (by omega), e1]
   ·exact ⟨s, h0, h1, Ev.step (f := fun _ => some (c, 0, s)) (fun k => by rw [spec_l01From.l0, if_pos (by omega), if_neg (by omega)]) (Ev.now _)⟩
 obtain ⟨s', g0, g1, g2⟩ := loop c.length 0 (by omega) 88007 (by omega) (by omega)
 exact ⟨0, s', Ev.congr (fun k => rfl) g2, hc, hb, by omega, by omega, g0, g1⟩
theorem pick_ok {c : List Int} {a s : Int} (h : Src c a s) (l : List Int) (h0 : 0 < l.length) (h1 : l.length ≤ 1000) :
  ∃ r a' s', spec_l01Pick.f c a s l = some (r, a', s') ∧ Src c a' s' ∧ r ∈ l := by
 obtain ⟨r, a', s', e, hs, h2, h3⟩ := next_ok h (l.length : Int) (by omega)
 have h4 := h3 (by omega)
 unfold spec_l01Pick.f
 rw [e]
 simp only [Option.bind_some]
 rw [if_pos h2, if_pos h4]
 refine ⟨_, _, _, rfl, hs, ?_⟩
 obtain ⟨m, rfl⟩ := Int.eq_ofNat_of_zero_le h2
 exact rd_mem (by omega)
theorem strOf_size (l : List Int) : (strOfNums l).size = l.length := by
 show (List.map _ l).toArray.size = _
 simp
theorem drawSide_ok {c : List Int} {a s : Int} (h : Src c a s) : ∃ r a' s', spec_l04DrawSide.f c a s = some (r, a', s') ∧ Src c a' s' ∧ -1 ≤ r ∧ r ≤ 16 := by
 obtain ⟨m, a1, s1, e1, h1, _, _⟩ := next_ok h 40 (by omega)
 unfold spec_l04DrawSide.f
 rw [e1]
 simp only [Option.bind_some]
 by_cases hm : m = 0
 ·obtain ⟨r, a2, s2, e2, h2, h3⟩ := pick_ok h1 [0, 3, (-1), 16] (by simp) (by simp)
  rw [if_pos hm, e2]
  refine ⟨r, a2, s2, rfl, h2, ?_⟩
  simp only [List.mem_cons, List.not_mem_nil, or_false] at h3
  omega
 ·obtain ⟨r, a2, s2, e2, h2, h3⟩ := pick_ok h1 [1, 2, 2, 4, 4, 8] (by simp) (by simp)
  rw [if_neg hm, e2]
  refine ⟨r, a2, s2, rfl, h2, ?_⟩
  simp only [List.mem_cons, List.not_mem_nil, or_false] at h3
  omega
theorem power_ok (a : Int) : ∃ (j : Nat) (q : Bool), j ≤ 3 ∧ spec_l04Power.f a = some ((j : Int), q) := by
 unfold spec_l04Power.f
 by_cases h1 : a = 1
 ·exact ⟨0, true, by decide, if_pos h1⟩
 by_cases h2 : a = 2
 ·exact ⟨1, true, by decide, by rw [if_neg h1, if_pos h2]; rfl⟩
 by_cases h4 : a = 4
 ·exact ⟨2, true, by decide, by rw [if_neg h1, if_neg h2, if_pos h4]; rfl⟩
 by_cases h8 : a = 8
 ·exact ⟨3, true, by decide, by rw [if_neg h1, if_neg h2, if_neg h4, if_pos h8]; rfl⟩
 ·exact ⟨0, false, by decide, by rw [if_neg h1, if_neg h2, if_neg h4, if_neg h8]; rfl⟩
theorem drawSheet_ok {c : List Int} {a s : Int} (h0 : Src c a s) : ∃ w h t a' s', Ev (fun k => spec_l04Draw.f k c a s) (w, h, t, a', s') ∧ Src c a' s' ∧ t.size ≤ 7 ∧ -1 ≤ w ∧ w ≤ 16 ∧ -1 ≤ h ∧ h ≤ 16 := by
 obtain ⟨w, a1, s1, e1, h1, w0, w1⟩ := drawSide_ok h0
 obtain ⟨h, a2, s2, e2, h2, v0, v1⟩ := drawSide_ok h1
 obtain ⟨i, qi, i1, e3⟩ := power_ok w
 obtain ⟨j, qj, j1, e4⟩ := power_ok h
 have loop : ∀ (d i j : Nat) (x : List Int) (a s : Int), i + j = d → Src c a s → x.length + d ≤ 6 → ∃ t a' s', Ev (fun k => spec_l04Draw.l0 k w h (i : Int) (j : Int) x c a s) (w, h, t, a', s') ∧ Src c a' s' ∧ t.size ≤ 7 := by
  intro d
  induction d with
  | zero =>
   intro i j x a s hd h hx
   obtain ⟨m, a2, s2, e2, h2, m0, _⟩ := next_ok h 40 (by omega)
   have hz := strOf_size x
   have hg : ¬ wrap64 ((i : Int) + (j : Int)) > 0 := by rw [w64 (by omega) (by omega)]; omega
   by_cases m1 : m = 0
   ·refine ⟨_, a2, s2, Ev.step (f := fun _ => some (w, _, (strOfNums x) ++ (⟨#[76]⟩ : ByteArray), a2, s2)) (fun k => ?_) (Ev.now _), h2, ?_⟩
    ·rw [spec_l04Draw.l0, if_neg hg, e2]
     simp only [Option.bind_some]
     rw [if_pos m1, if_pos (by omega)]
    ·rw [ByteArray.size_append]
     show (strOfNums x).size + 1 ≤ 7
     omega
   ·by_cases m2 : m = 1
    ·refine ⟨_, a2, s2, Ev.step (f := fun _ => some (w, _, (⟨#[120]⟩ : ByteArray), a2, s2)) (fun k => ?_) (Ev.now _), h2, (show 1 ≤ 7 by omega)⟩
     rw [spec_l04Draw.l0, if_neg hg, e2]
     simp only [Option.bind_some]
     rw [if_neg m1, if_pos m2]
    ·refine ⟨_, a2, s2, Ev.step (f := fun _ => some (w, _, strOfNums x, a2, s2)) (fun k => ?_) (Ev.now _), h2, by omega⟩
     rw [spec_l04Draw.l0, if_neg hg, e2]
     simp only [Option.bind_some]
     rw [if_neg m1, if_neg m2]
  | succ d ih =>
   intro i j x a s hd h hx
   have hw : wrap64 ((i : Int) + (j : Int)) = (i : Int) + (j : Int) := w64 (by omega) (by omega)
   have hg : wrap64 ((i : Int) + (j : Int)) > 0 := by rw [hw]; omega
   obtain ⟨p, a1, s1, e1, h1, p0, p1⟩ := next_ok h ((i : Int) + (j : Int)) (by omega)
   have p2 := p1 (by omega)
   obtain ⟨m, a2, s2, e2, h2, m0, m1⟩ := next_ok h1 2 (by omega)
   have m2 := m1 (by omega)
   by_cases hp : p < (i : Int)
   ·obtain ⟨t, a', s', g1, g2, g3⟩ := ih (i - 1) j (x ++ [bt (⟨#[76, 82]⟩ : ByteArray) m]) a2 s2 (by omega) h2 (by rw [List.length_append]; simp; omega)
    refine ⟨t, a', s', Ev.step (fun k => ?_) g1, g2, g3⟩
    rw [spec_l04Draw.l0, if_pos hg, hw, e1]
    simp only [Option.bind_some]
    rw [if_pos hp, e2]
    simp only [Option.bind_some]
    rw [if_pos m0, if_pos m2, if_pos (by omega), w64 (x := (i : Int) - 1) (by omega) (by omega), show (i : Int) - 1 = ((i - 1 : Nat) : Int) by omega]
   ·obtain ⟨t, a', s', g1, g2, g3⟩ := ih i (j - 1) (x ++ [bt (⟨#[84, 66]⟩ : ByteArray) m]) a2 s2 (by omega) h2 (by rw [List.length_append]; simp; omega)
    refine ⟨t, a', s', Ev.step (fun k => ?_) g1, g2, g3⟩
    rw [spec_l04Draw.l0, if_pos hg, hw, e1]
    simp only [Option.bind_some]
    rw [if_neg hp, e2]
    simp only [Option.bind_some]
    rw [if_pos m0, if_pos m2, if_pos (by omega), w64 (x := (j : Int) - 1) (by omega) (by omega), show (j : Int) - 1 = ((j - 1 : Nat) : Int) by omega]
 obtain ⟨t, a', s', g1, g2, g3⟩ := loop (i + j) i j [] a2 s2 rfl h2 (by simp; omega)
 refine ⟨w, h, t, a', s', ?_, g2, g3, w0, w1, v0, v1⟩
 unfold spec_l04Draw.f
 simp only [e1, e2, e3, e4, Option.bind_some]
 exact g1
theorem bt_list (s : ByteArray) (i : Nat) (h : i < s.size) : bt s (i : Int) = ((s.data.toList[i]'(by simpa using h)).toNat : Int) := by
 unfold bt
 rw [dif_pos (by rw [Int.toNat_natCast]; exact h)]
 simp [ByteArray.getElem_eq_getElem_data]
def lrc (l : List UInt8) : Nat := List.count 76 l + List.count 82 l
theorem lrc_cons (c : UInt8) (t : List UInt8) : lrc (c :: t) = lrc t + (if c = 76 ∨ c = 82 then 1 else 0) := by
 unfold lrc
 rw [List.count_cons, List.count_cons]
 by_cases h1 : c = 76
 ·subst h1; simp; omega
 ·by_cases h2 : c = 82
  ·subst h2; simp; omega
  ·simp [h1, h2]
theorem lrc_le (l : List UInt8) : lrc l ≤ l.length := by
 induction l with
 | nil => decide
 | cons c t ih => rw [lrc_cons, List.length_cons]; split <;> omega
theorem byte_eq (c : UInt8) (n : Nat) (hn : n < 256) : ((c.toNat : Int) = (n : Int)) ↔ c = UInt8.ofNat n := by
 have e : (UInt8.ofNat n).toNat = n := (show (UInt8.ofNat n).toNat = n % 256 from rfl).trans (Nat.mod_eq_of_lt hn)
 constructor
 ·intro h
  apply UInt8.toNat_inj.1
  rw [e]
  omega
 ·rintro rfl
  rw [e]
def sL (one two : Bool) : List UInt8 → Int → Int → Bool
 | [], a, b => if one = true then (if two = true then (if a = 0 then b == 0 else false) else false) else false
 | c :: t, a, b => if c = 76 ∨ c = 82 then sL one two t (a - 1) b else if c = 84 ∨ c = 66 then sL one two t a (b - 1) else false
theorem sL_iff (one two : Bool) : ∀ (l : List UInt8) (a b : Int), sL one two l a b = true ↔ (∀ x ∈ l, ([76, 82, 84, 66] : List UInt8).contains x = true) ∧ one = true ∧ two = true ∧ a = (lrc l : Int) ∧ b = (l.length : Int) - (lrc l : Int)
 | [], a, b => by
  rw [sL, show lrc [] = 0 from rfl]
  cases one <;> cases two <;> simp <;> omega
 | c :: t, a, b => by
  rw [sL, lrc_cons, List.length_cons]
  by_cases h1 : c = 76 ∨ c = 82
  ·rw [if_pos h1, if_pos h1, sL_iff one two t]
   have hc : ([76, 82, 84, 66] : List UInt8).contains c = true := by rcases h1 with rfl | rfl <;> decide
   constructor
   ·rintro ⟨g1, g2, g3, g4, g5⟩
    exact ⟨fun x hx => by rcases List.mem_cons.1 hx with rfl | hx; exact hc; exact g1 x hx, g2, g3, by omega, by omega⟩
   ·rintro ⟨g1, g2, g3, g4, g5⟩
    exact ⟨fun x hx => g1 x (List.mem_cons_of_mem _ hx), g2, g3, by omega, by omega⟩
  ·rw [if_neg h1, if_neg h1]
   by_cases h2 : c = 84 ∨ c = 66
   ·rw [if_pos h2, sL_iff one two t]
    have hc : ([76, 82, 84, 66] : List UInt8).contains c = true := by rcases h2 with rfl | rfl <;> decide
    constructor
    ·rintro ⟨g1, g2, g3, g4, g5⟩
     exact ⟨fun x hx => by rcases List.mem_cons.1 hx with rfl | hx; exact hc; exact g1 x hx, g2, g3, by omega, by omega⟩
    ·rintro ⟨g1, g2, g3, g4, g5⟩
     exact ⟨fun x hx => g1 x (List.mem_cons_of_mem _ hx), g2, g3, by omega, by omega⟩
   ·rw [if_neg h2]
    constructor
    ·intro z; cases z
    ·rintro ⟨g1, _⟩
     have := g1 c List.mem_cons_self
     simp only [List.contains_cons, List.contains_nil, Bool.or_false, Bool.or_eq_true, beq_iff_eq] at this
     rcases this with e | e | e | e
     ·exact (h1 (.inl e)).elim
     ·exact (h1 (.inr e)).elim
     ·exact (h2 (.inl e)).elim
     ·exact (h2 (.inr e)).elim
theorem specIsScheme_loop (s : ByteArray) (one two : Bool) (hs : s.size ≤ 1048576) : ∀ (d i : Nat), i + d = s.size → ∀ a b : Int, -4000000 ≤ a - (d : Int) → a ≤ 4000000 → -4000000 ≤ b - (d : Int) → b ≤ 4000000 → Ev (fun k => spec_IsScheme.l0 k s a one b two (i : Int)) (sL one two (s.data.toList.drop i) a b) := by
 have hz : s.size = s.data.toList.length := by simp
 intro d
 induction d with
 | zero =>
  intro i hi a b _ _ _ _
  rw [List.drop_of_length_le (by omega), sL]
  refine Ev.step (f := fun _ => some (if one = true then (if two = true then (if a = 0 then b == 0 else false) else false) else false)) (fun k => ?_) (Ev.now _)
  rw [spec_IsScheme.l0, if_neg (by omega)]
  cases one <;> cases two <;> by_cases h : a = 0 <;> simp [h]
 | succ d ih =>
  intro i hi a b h1 h2 h3 h4
  have hil : i < s.data.toList.length := by omega
  rw [List.drop_eq_getElem_cons hil, sL]
  have hb := bt_list s i (by omega)
  generalize s.data.toList[i] = c at hb
  have b76 := byte_eq c 76 (by omega)
  have b82 := byte_eq c 82 (by omega)
  have b84 := byte_eq c 84 (by omega)
  have b66 := byte_eq c 66 (by omega)
  have e76 : bt s (i : Int) = 76 ↔ c = 76 := by rw [hb]; exact b76
  have e82 : bt s (i : Int) = 82 ↔ c = 82 := by rw [hb]; exact b82
  have e84 : bt s (i : Int) = 84 ↔ c = 84 := by rw [hb]; exact b84
  have e66 : bt s (i : Int) = 66 ↔ c = 66 := by rw [hb]; exact b66
  have step : ∀ r, Ev (fun k => spec_IsScheme.j1 k s a one b two (i : Int) (bt s (i : Int)) (decide (c = 76 ∨ c = 82))) r → Ev (fun k => spec_IsScheme.l0 k s a one b two (i : Int)) r := by
   intro r hr
   refine Ev.step (fun k => ?_) hr
   rw [spec_IsScheme.l0, if_pos (by omega), if_pos (by omega)]
   by_cases c1 : bt s (i : Int) = 76
   ·rw [if_pos c1, show ((bt s (i : Int)) == 76) = true from by rw [c1]; rfl, decide_eq_true (.inl (e76.1 c1))]
   ·rw [if_neg c1]
    by_cases c2 : bt s (i : Int) = 82
    ·rw [show ((bt s (i : Int)) == 82) = true from by rw [c2]; rfl, decide_eq_true (.inr (e82.1 c2))]
    ·rw [show ((bt s (i : Int)) == 82) = false from beq_false_of_ne c2, decide_eq_false (fun z => by rcases z with z | z; exact c1 (e76.2 z); exact c2 (e82.2 z))]
  apply step
  by_cases g1 : c = 76 ∨ c = 82
  ·rw [if_pos g1, decide_eq_true g1]
   refine Ev.step (fun k => by rw [spec_IsScheme.j1, if_pos rfl, w64n i (by omega), w64 (x := a - 1) (by omega) (by omega)]) ?_
   exact ih (i + 1) (by omega) _ _ (by omega) (by omega) (by omega) (by omega)
  ·rw [if_neg g1, decide_eq_false g1]
   by_cases g2 : c = 84 ∨ c = 66
   ·rw [if_pos g2]
    refine Ev.step (f := fun k => spec_IsScheme.l0 k s a one (b - 1) two ((i + 1 : Nat) : Int)) (fun k => ?_) (ih (i + 1) (by omega) _ _ (by omega) (by omega) (by omega) (by omega))
    rw [spec_IsScheme.j1, if_neg (by simp), w64n i (by omega), w64 (x := b - 1) (by omega) (by omega)]
    by_cases c3 : bt s (i : Int) = 84
    ·rw [if_pos c3]
    ·rw [if_neg c3, if_pos (e66.2 (by rcases g2 with z | z; exact (c3 (e84.2 z)).elim; exact z))]
   ·rw [if_neg g2]
    refine Ev.step (f := fun _ => some false) (fun k => ?_) (Ev.now _)
    rw [spec_IsScheme.j1, if_neg (by simp), if_neg (fun z => g2 (.inl (e84.1 z))), if_neg (fun z => g2 (.inr (e66.1 z)))]
abbrev SL := S102
def gridL (H W : Nat) (g : Nat → Nat → List SL) : List (List (List SL)) := (List.range H).map fun y => (List.range W).map (g y)
theorem gridL_len (H W : Nat) (g : Nat → Nat → List SL) : (gridL H W g).length = H := by simp [gridL]
theorem gridL_row {H W : Nat} {g : Nat → Nat → List SL} {y : Nat} (h : y < H) : rd_L6 (gridL H W g) (y : Int) = (List.range W).map (g y) := by
 unfold rd_L6 gridL
 rw [Int.toNat_natCast, List.getD_eq_getElem?_getD, List.getElem?_map, List.getElem?_range h]
 rfl
theorem row_cell {W : Nat} {f : Nat → List SL} {x : Nat} (h : x < W) : rd_L5 ((List.range W).map f) (x : Int) = f x := by
 unfold rd_L5
 rw [Int.toNat_natCast, List.getD_eq_getElem?_getD, List.getElem?_map, List.getElem?_range h]
 rfl
theorem row_len (W : Nat) (f : Nat → List SL) : ((List.range W).map f).length = W := by simp
theorem row_snoc {α : Type} (x : Nat) (f : Nat → α) : (List.range x).map f ++ [f x] = (List.range (x + 1)).map f := by rw [List.range_succ, List.map_append]; rfl
def turnL (a : Bool) (l : List SL) : List SL := l.reverse.map (spec_l04Turn.togg a)
theorem turnL_len (a : Bool) (l : List SL) : (turnL a l).length = l.length := by simp [turnL]
theorem specTurn_eq {l : List SL} (a : Bool) (h : l.length ≤ 64) : spec_l04Turn.f l a = some (turnL a l) := by unfold spec_l04Turn.f; rw [if_pos (by omega)]; rfl
def ovr (f : Bool) (h i : Nat) : Nat := if f = true then h - 1 - i else 2 * h - 1 - i
def und (f : Bool) (h i : Nat) : Nat := if f = true then h + i else i
def gAlong (f : Bool) (W : Nat) (g : Nat → Nat → List SL) : Nat → Nat → List SL := fun y x => turnL true (g y (ovr f W x)) ++ g y (und f W x)
def gAcross (f : Bool) (H : Nat) (g : Nat → Nat → List SL) : Nat → Nat → List SL := fun y x => turnL false (g (ovr f H y) x) ++ g (und f H y) x
theorem tdiv2 (h : Nat) (hh : h ≤ 100) : wrap64 (Int.tdiv ((2 * h : Nat) : Int) 2) = (h : Int) := by rw [Int.tdiv_eq_ediv_of_nonneg (by omega), w64 (by omega) (by omega)]; omega
theorem ltc {a b : Nat} (h : a < b) : (a : Int) < (b : Int) := Int.ofNat_lt.2 h
theorem nn (a : Nat) : 0 ≤ (a : Int) := Int.natCast_nonneg a
theorem nltc {a b : Nat} (h : ¬ a < b) : ¬ (a : Int) < (b : Int) := fun z => h (Int.ofNat_lt.1 z)
theorem w2a {W x : Nat} (hW : W ≤ 8) (h : x < W) : wrap64 (wrap64 ((W : Int) - 1) - (x : Int)) = ((W - 1 - x : Nat) : Int) := by rw [w64 (x := (W : Int) - 1) (by omega) (by omega), w64 (by omega) (by omega)]; omega
theorem w2b {W x : Nat} (hW : W ≤ 8) (h : x ≤ W) : wrap64 ((W : Int) + (x : Int)) = ((W + x : Nat) : Int) := by rw [w64 (by omega) (by omega)]; omega
theorem gA_t (W : Nat) (g : Nat → Nat → List SL) (y x : Nat) : gAlong true W g y x = turnL true (g y (W - 1 - x)) ++ g y (W + x) := rfl
theorem gA_f (W : Nat) (g : Nat → Nat → List SL) (y x : Nat) : gAlong false W g y x = turnL true (g y (2 * W - 1 - x)) ++ g y x := rfl
theorem sumb {a b : List SL} (t : Bool) (ha : a.length ≤ 64) (hb : b.length ≤ 64) : (turnL t a).length + b.length < 5864062014805 := by rw [turnL_len]; omega
theorem lenb {α : Type} {l : List α} (h : l.length ≤ 8) : l.length < 5864062014805 := by omega
-- one row, folded along
theorem along_in {H W : Nat} {g : Nat → Nat → List SL} (c : Int) (hW : W ≤ 4) (y : Nat) (hy : y < H) (hg : ∀ x, x < 2 * W → (g y x).length ≤ 64) (a5 : List (List (List SL))) (h5 : a5.length ≤ 8) (r : List (List (List SL)))
  (hr : Ev (fun k => spec_l04Along.l0 k (gridL H (2 * W) g) c (a5 ++ [(List.range W).map (gAlong (c == 76) W g y)]) (wrap64 ((y : Int) + 1))) r) :
  ∀ d x : Nat, x + d = W → Ev (fun k => spec_l04Along.l1 k (gridL H (2 * W) g) c a5 (y : Int) ((2 * W : Nat) : Int) ((List.range x).map (gAlong (c == 76) W g y)) (x : Int)) r := by
 have e1 := Aside0.mk (tdiv2 W (by omega))
 have hG : (y : Int) < ((gridL H (2 * W) g).length : Int) := by rw [gridL_len]; exact ltc hy
 have hR := gridL_row (H := H) (W := 2 * W) (g := g) hy
 have hc0 : ∀ i : Nat, i < 2 * W → rd_L5 ((List.range (2 * W)).map (g y)) (i : Int) = g y i := fun i hi => row_cell hi
 have hlen : ∀ i : Nat, i < 2 * W → (i : Int) < (((List.range (2 * W)).map (g y)).length : Int) := fun i hi => by rw [row_len]; exact ltc hi
 generalize gridL H (2 * W) g = G at hr hG hR ⊢
 generalize (List.range (2 * W)).map (g y) = R at hR hc0 hlen
 intro d
 induction d with
 | zero =>
  intro x hx
  obtain rfl : x = W := by omega
  have hn : ¬ (x : Int) < (x : Int) := Int.lt_irrefl _
  exact Ev.step (fun k => by rw [spec_l04Along.l1, e1.out, if_neg hn, if_pos (lenb h5)]) hr
 | succ d ih =>
  intro x hx
  have ih' := ih (x + 1) (by omega)
  have h8 : ((List.range x).map (gAlong (c == 76) W g y)).length ≤ 8 := by rw [row_len]; omega
  rw [← row_snoc, ← w64n x (by omega)] at ih'
  generalize (List.range x).map (gAlong (c == 76) W g y) = acc at ih' h8 ⊢
  clear ih hr
  have f1 : (x : Int) < (W : Int) := ltc (by omega)
  have f4 := hlen (2 * W - 1 - x) (by omega)
  have f5 := hlen x (by omega)
  have e2 := Aside0.mk (w2a (W := 2 * W) (x := x) (by omega) (by omega))
  by_cases hc : c = 76
  ·rw [show (c == 76) = true by rw [hc]; rfl, gA_t] at ih'
   have f6 := hlen (W - 1 - x) (by omega)
   have f7 := hlen (W + x) (by omega)
   have l1 := hg (W - 1 - x) (by omega)
   have l2 := hg (W + x) (by omega)
   have e3 := Aside0.mk (w2a (W := W) (x := x) (by omega) (by omega))
   have e4 := Aside0.mk (w2b (W := W) (x := x) (by omega) (by omega))
   have c1 := hc0 (W - 1 - x) (by omega)
   have c2 := hc0 (W + x) (by omega)
   refine Ev.step (fun k => ?_) ih'
   rw [spec_l04Along.l1, e1.out, hR, e2.out, e3.out, e4.out, if_pos f1, if_pos (nn y), if_pos hG, if_pos (nn _), if_pos f4, if_pos (nn x), if_pos f5, if_pos hc, if_pos (nn _), if_pos f6, if_pos (nn _), if_pos f7, c1, c2, specTurn_eq true l1, Option.bind_some, if_pos (sumb true l1 l2), if_pos (lenb h8)]
  ·rw [show (c == 76) = false from beq_false_of_ne hc, gA_f] at ih'
   have l1 := hg (2 * W - 1 - x) (by omega)
   have l2 := hg x (by omega)
   have c1 := hc0 (2 * W - 1 - x) (by omega)
   have c2 := hc0 x (by omega)
   refine Ev.step (fun k => ?_) ih'
   rw [spec_l04Along.l1, e1.out, hR, e2.out, if_pos f1, if_pos (nn y), if_pos hG, if_pos (nn _), if_pos f4, if_pos (nn x), if_pos f5, if_neg hc, c1, c2, specTurn_eq true l1, Option.bind_some, if_pos (sumb true l1 l2), if_pos (lenb h8)]
theorem along_ev {H W : Nat} {g : Nat → Nat → List SL} (c : Int) (hH : H ≤ 8) (hW : W ≤ 4) (hg : ∀ y x, y < H → x < 2 * W → (g y x).length ≤ 64) : Ev (fun k => spec_l04Along.f k (gridL H (2 * W) g) c) (gridL H W (gAlong (c == 76) W g)) := by
 have key : ∀ d y : Nat, y + d = H → Ev (fun k => spec_l04Along.l0 k (gridL H (2 * W) g) c ((List.range y).map fun y => (List.range W).map (gAlong (c == 76) W g y)) (y : Int)) (gridL H W (gAlong (c == 76) W g)) := by
  intro d
  induction d with
  | zero =>
   intro y hy
   obtain rfl : y = H := by omega
   have hn : ¬ (y : Int) < ((gridL y (2 * W) g).length : Int) := by rw [gridL_len]; exact Int.lt_irrefl _
   exact Ev.step (f := fun _ => some (gridL y W (gAlong (c == 76) W g))) (fun k => by rw [spec_l04Along.l0, if_neg hn]; rfl) (Ev.now _)
  | succ d ih =>
   intro y hy
   have ih' := ih (y + 1) (by omega)
   rw [← row_snoc, ← w64n y (by omega)] at ih'
   have h := along_in c hW y (show y < H by omega) (fun x hx => hg y x (by omega) hx) _ (by rw [List.length_map, List.length_range]; omega) _ ih' W 0 (by omega)
   have hG : (y : Int) < ((gridL H (2 * W) g).length : Int) := by rw [gridL_len]; exact ltc (by omega)
   have hR : ((rd_L6 (gridL H (2 * W) g) (y : Int)).length : Int) = ((2 * W : Nat) : Int) := by rw [gridL_row (by omega), row_len]
   refine Ev.step (fun k => ?_) h
   rw [spec_l04Along.l0, if_pos hG, if_pos (nn y), hR]
   rfl
 exact key H 0 (by omega)
-- folded across
theorem across_in {G : List (List (List SL))} {W : Nat} (c : Int) (hW : W ≤ 8) (fo fu : Nat → List SL) (hg : ∀ x, x < W → (fo x).length ≤ 64 ∧ (fu x).length ≤ 64) (a6 : List (List (List SL))) (h6 : a6.length ≤ 8) (y : Nat) (n : Int) (r : List (List (List SL)))
  (hr : Ev (fun k => spec_l04Across.l0 k G c n (a6 ++ [(List.range W).map fun x => turnL false (fo x) ++ fu x]) (wrap64 ((y : Int) + 1))) r) :
  ∀ d x : Nat, x + d = W → Ev (fun k => spec_l04Across.l1 k G c n a6 (y : Int) ((List.range W).map fo) ((List.range W).map fu) ((List.range x).map fun x => turnL false (fo x) ++ fu x) (x : Int)) r ∧ Ev (fun k => spec_l04Across.l101 k G c n a6 (y : Int) ((List.range W).map fo) ((List.range W).map fu) ((List.range x).map fun x => turnL false (fo x) ++ fu x) (x : Int)) r := by
 have hO : ∀ i : Nat, i < W → (i : Int) < (((List.range W).map fo).length : Int) := fun i hi => by rw [row_len]; exact ltc hi
 have hU : ∀ i : Nat, i < W → (i : Int) < (((List.range W).map fu).length : Int) := fun i hi => by rw [row_len]; exact ltc hi
 have hN : ¬ (W : Int) < (((List.range W).map fo).length : Int) := by rw [row_len]; exact Int.lt_irrefl _
 have cO : ∀ i : Nat, i < W → rd_L5 ((List.range W).map fo) (i : Int) = fo i := fun i hi => row_cell hi
 have cU : ∀ i : Nat, i < W → rd_L5 ((List.range W).map fu) (i : Int) = fu i := fun i hi => row_cell hi
 generalize (List.range W).map fo = RO at hO hN cO ⊢
 generalize (List.range W).map fu = RU at hU cU ⊢
 intro d
 induction d with
 | zero =>
  intro x hx
  obtain rfl : x = W := by omega
  exact ⟨Ev.step (fun k => by rw [spec_l04Across.l1, if_neg hN, if_pos (lenb h6)]) hr, Ev.step (fun k => by rw [spec_l04Across.l101, if_neg hN, if_pos (lenb h6)]) hr⟩
 | succ d ih =>
  intro x hx
  obtain ⟨i1, i2⟩ := ih (x + 1) (by omega)
  have h10 : ((List.range x).map fun x => turnL false (fo x) ++ fu x).length ≤ 8 := by rw [List.length_map, List.length_range]; omega
  rw [← row_snoc, ← w64n x (by omega)] at i1 i2
  obtain ⟨l1, l2⟩ := hg x (by omega)
  have f1 := hO x (by omega)
  have f2 := hU x (by omega)
  have c1 := cO x (by omega)
  have c2 := cU x (by omega)
  generalize ((List.range x).map fun x => turnL false (fo x) ++ fu x) = acc at i1 i2 h10 ⊢
  clear ih hr
  constructor
  ·refine Ev.step (fun k => ?_) i1
   rw [spec_l04Across.l1, if_pos f1, if_pos (nn x), c1, c2, specTurn_eq false l1, Option.bind_some, if_pos f2, if_pos (sumb false l1 l2), if_pos (lenb h10)]
  ·refine Ev.step (fun k => ?_) i2
   rw [spec_l04Across.l101, if_pos f1, if_pos (nn x), c1, c2, specTurn_eq false l1, Option.bind_some, if_pos f2, if_pos (sumb false l1 l2), if_pos (lenb h10)]
theorem across_ev {H W : Nat} {g : Nat → Nat → List SL} (c : Int) (hH : H ≤ 4) (hW : W ≤ 8) (hg : ∀ y x, y < 2 * H → x < W → (g y x).length ≤ 64) : Ev (fun k => spec_l04Across.f k (gridL (2 * H) W g) c) (gridL H W (gAcross (c == 84) H g)) := by
 have e1 := Aside0.mk (tdiv2 H (by omega))
 have hlen : ∀ i : Nat, i < 2 * H → (i : Int) < ((gridL (2 * H) W g).length : Int) := fun i hi => by rw [gridL_len]; exact ltc hi
 have hrow : ∀ i : Nat, i < 2 * H → rd_L6 (gridL (2 * H) W g) (i : Int) = (List.range W).map (g i) := fun i hi => gridL_row hi
 have hL : ((gridL (2 * H) W g).length : Int) = ((2 * H : Nat) : Int) := by rw [gridL_len]
 have key : ∀ d y : Nat, y + d = H → Ev (fun k => spec_l04Across.l0 k (gridL (2 * H) W g) c ((2 * H : Nat) : Int) ((List.range y).map fun y => (List.range W).map (gAcross (c == 84) H g y)) (y : Int)) (gridL H W (gAcross (c == 84) H g)) := by
  generalize gridL (2 * H) W g = G at hlen hrow
  intro d
  induction d with
  | zero =>
   intro y hy
   obtain rfl : y = H := by omega
   have hn : ¬ (y : Int) < (y : Int) := Int.lt_irrefl _
   exact Ev.step (f := fun _ => some (gridL y W (gAcross (c == 84) y g))) (fun k => by rw [spec_l04Across.l0, e1.out, if_neg hn]; rfl) (Ev.now _)
  | succ d ih =>
   intro y hy
   have ih' := ih (y + 1) (by omega)
   rw [← row_snoc, ← w64n y (by omega)] at ih'
   have h6 : ((List.range y).map fun y => (List.range W).map (gAcross (c == 84) H g y)).length ≤ 8 := by rw [List.length_map, List.length_range]; omega
   generalize ((List.range y).map fun y => (List.range W).map (gAcross (c == 84) H g y)) = acc at ih' h6 ⊢
   have e2 := Aside0.mk (w2a (W := 2 * H) (x := y) (by omega) (by omega))
   have f1 : (y : Int) < (H : Int) := ltc (by omega)
   have f2 := hlen (2 * H - 1 - y) (by omega)
   have f3 := hlen y (by omega)
   clear ih
   by_cases hc : c = 84
   ·have hcb : (c == 84) = true := by rw [hc]; rfl
    rw [hcb] at ih' ⊢
    have e3 := Aside0.mk (w2a (W := H) (x := y) (by omega) (by omega))
    have e4 := Aside0.mk (w2b (W := H) (x := y) (by omega) (by omega))
    have f4 := hlen (H - 1 - y) (by omega)
    have f5 := hlen (H + y) (by omega)
    have r1 := hrow (H - 1 - y) (by omega)
    have r2 := hrow (H + y) (by omega)
    have h := (across_in (G := G) c hW (g (H - 1 - y)) (g (H + y)) (fun x hx => ⟨hg _ x (by omega) hx, hg _ x (by omega) hx⟩) acc h6 y _ _ ih' W 0 (by omega)).1
    refine Ev.step (fun k => ?_) h
    rw [spec_l04Across.l0, e1.out, e2.out, e3.out, e4.out, if_pos f1, if_pos (nn _), if_pos f2, if_pos (nn y), if_pos f3, if_pos hc, if_pos (nn _), if_pos f4, if_pos (nn _), if_pos f5, r1, r2]
    rfl
   ·have hcb : (c == 84) = false := beq_false_of_ne hc
    rw [hcb] at ih' ⊢
    have r1 := hrow (2 * H - 1 - y) (by omega)
    have r2 := hrow y (by omega)
    have h := (across_in (G := G) c hW (g (2 * H - 1 - y)) (g y) (fun x hx => ⟨hg _ x (by omega) hx, hg _ x (by omega) hx⟩) acc h6 y _ _ ih' W 0 (by omega)).2
    refine Ev.step (fun k => ?_) h
    rw [spec_l04Across.l0, e1.out, e2.out, if_pos f1, if_pos (nn _), if_pos f2, if_pos (nn y), if_pos f3, if_neg hc, r1, r2]
    rfl
 have hk := key H 0 (by omega)
 unfold spec_l04Across.f
 rw [hL]
 exact hk
def gfold : List UInt8 → Nat → Nat → (Nat → Nat → List SL) → List SL
 | [], _, _, g => g 0 0
 | c :: t, H, W, g => if c = 76 ∨ c = 82 then gfold t H (W / 2) (gAlong (c == 76) (W / 2) g) else gfold t (H / 2) W (gAcross (c == 84) (H / 2) g)
def g0 : Nat → Nat → List SL := fun y x => [⟨(x : Int), (y : Int), false, false⟩]
theorem specStart_ev {H W : Nat} (hH : H ≤ 8) (hW : W ≤ 8) : Ev (fun k => spec_l04Start.f k (W : Int) (H : Int)) (gridL H W g0) := by
 have hin : ∀ (y : Nat) (a5 : List (List (List SL))) (r : List (List (List SL))), a5.length ≤ 8 → Ev (fun k => spec_l04Start.l0 k (W : Int) (H : Int) (a5 ++ [(List.range W).map (g0 y)]) (wrap64 ((y : Int) + 1))) r → ∀ d x : Nat, x + d = W → Ev (fun k => spec_l04Start.l1 k (W : Int) (H : Int) a5 (y : Int) ((List.range x).map (g0 y)) (x : Int)) r := by
  intro y a5 r h5 hr d
  induction d with
  | zero =>
   intro x hx
   obtain rfl : x = W := by omega
   have hn : ¬ (x : Int) < (x : Int) := Int.lt_irrefl _
   exact Ev.step (fun k => by rw [spec_l04Start.l1, if_neg hn, if_pos (lenb h5)]) hr
  | succ d ih =>
   intro x hx
   have ih' := ih (x + 1) (by omega)
   have h8 : ((List.range x).map (g0 y)).length ≤ 8 := by rw [row_len]; omega
   have f1 : (x : Int) < (W : Int) := ltc (by omega)
   rw [← row_snoc, ← w64n x (by omega)] at ih'
   exact Ev.step (fun k => by rw [spec_l04Start.l1, if_pos f1, if_pos (lenb h8)]; rfl) ih'
 have key : ∀ d y : Nat, y + d = H → Ev (fun k => spec_l04Start.l0 k (W : Int) (H : Int) ((List.range y).map fun y => (List.range W).map (g0 y)) (y : Int)) (gridL H W g0) := by
  intro d
  induction d with
  | zero =>
   intro y hy
   obtain rfl : y = H := by omega
   have hn : ¬ (y : Int) < (y : Int) := Int.lt_irrefl _
   exact Ev.step (f := fun _ => some (gridL y W g0)) (fun k => by rw [spec_l04Start.l0, if_neg hn]; rfl) (Ev.now _)
  | succ d ih =>
   intro y hy
   have ih' := ih (y + 1) (by omega)
   rw [← row_snoc, ← w64n y (by omega)] at ih'
   have f1 : (y : Int) < (H : Int) := ltc (by omega)
   have h := hin y _ _ (by rw [List.length_map, List.length_range]; omega) ih' W 0 (by omega)
   exact Ev.step (fun k => by rw [spec_l04Start.l0, if_pos f1]; rfl) h
 exact key H 0 (by omega)
theorem leaves_stepA {s : ByteArray} {pos : Nat} {G G' : List (List (List SL))} {r : List SL} (hp : pos < s.size) (hp2 : pos < 1000) (hb : bt s (pos : Int) = 76 ∨ bt s (pos : Int) = 82) (h1 : Ev (fun k => spec_l04Along.f k G (bt s (pos : Int))) G') (h2 : Ev (fun k => spec_l04Leaves.l0 k s G' ((pos + 1 : Nat) : Int)) r) : Ev (fun k => spec_l04Leaves.l0 k s G (pos : Int)) r := by
 have f1 : (pos : Int) < (s.size : Int) := ltc hp
 refine Ev.step (f := fun k => spec_l04Leaves.j1 k s G (pos : Int) true) (fun k => ?_) ?_
 ·rw [spec_l04Leaves.l0, if_pos f1, if_pos (nn _)]
  rcases hb with hb | hb
  ·rw [if_pos hb]
  ·rw [if_neg (by rw [hb]; decide), hb]; rfl
 ·refine Ev.step (fun k => by rw [spec_l04Leaves.j1, if_pos rfl, if_pos (nn _), if_pos f1, w64n pos (by omega)]) ?_
  exact Ev.bind h1 h2
theorem leaves_stepB {s : ByteArray} {pos : Nat} {G G' : List (List (List SL))} {r : List SL} (hp : pos < s.size) (hp2 : pos < 1000) (hb : bt s (pos : Int) = 84 ∨ bt s (pos : Int) = 66) (h1 : Ev (fun k => spec_l04Across.f k G (bt s (pos : Int))) G') (h2 : Ev (fun k => spec_l04Leaves.l0 k s G' ((pos + 1 : Nat) : Int)) r) : Ev (fun k => spec_l04Leaves.l0 k s G (pos : Int)) r := by
 have f1 : (pos : Int) < (s.size : Int) := ltc hp
 refine Ev.step (f := fun k => spec_l04Leaves.j1 k s G (pos : Int) false) (fun k => ?_) ?_
 ·rw [spec_l04Leaves.l0, if_pos f1, if_pos (nn _)]
  rcases hb with hb | hb
  ·rw [if_neg (by rw [hb]; decide), hb]; rfl
  ·rw [if_neg (by rw [hb]; decide), hb]; rfl
 ·refine Ev.step (fun k => by rw [spec_l04Leaves.j1, if_neg (by simp), if_pos (nn _), if_pos f1, w64n pos (by omega)]) ?_
  exact Ev.bind h1 h2
theorem p2le {i n : Nat} (h : i ≤ n) : 2 ^ i ≤ 2 ^ n := Nat.pow_le_pow_right (by omega) h
def okSch (a b : Int) (s : ByteArray) : Prop := ∃ i j : Nat, i ≤ 3 ∧ j ≤ 3 ∧ a = ((2 ^ i : Nat) : Int) ∧ b = ((2 ^ j : Nat) : Int) ∧ (∀ x ∈ s.data.toList, ([76, 82, 84, 66] : List UInt8).contains x = true) ∧ lrc s.data.toList = i ∧ s.data.toList.length = i + j
def sumN : Nat → (Nat → Nat) → Nat
 | 0, _ => 0
 | n + 1, f => sumN n f + f n
theorem sumN_congr {n : Nat} {f g : Nat → Nat} (h : ∀ i, i < n → f i = g i) : sumN n f = sumN n g := by
 induction n with
 | zero => rfl
 | succ n ih => rw [sumN, sumN, ih (fun i hi => h i (by omega)), h n (by omega)]
theorem sumN_plus (m n : Nat) (f : Nat → Nat) : sumN (m + n) f = sumN m f + sumN n (fun i => f (m + i)) := by
 induction n with
 | zero => rfl
 | succ n ih => rw [← Nat.add_assoc, sumN, ih, sumN]; omega
theorem sumN_rev (n : Nat) (f : Nat → Nat) : sumN n f = sumN n (fun i => f (n - 1 - i)) := by
 induction n generalizing f with
 | zero => rfl
 | succ n ih =>
  rw [sumN, ih f, Nat.add_comm n 1, sumN_plus 1 n]
  show _ = (0 + f (1 + n - 1 - 0)) + _
  rw [show 1 + n - 1 - 0 = n by omega, Nat.zero_add, Nat.add_comm]
  congr 1
  exact sumN_congr (fun i hi => by rw [show 1 + n - 1 - (1 + i) = n - 1 - i by omega])
theorem sumN_add (n : Nat) (f g : Nat → Nat) : sumN n (fun i => f i + g i) = sumN n f + sumN n g := by
 induction n with
 | zero => rfl
 | succ n ih => rw [sumN, sumN, sumN, ih]; omega
theorem sumN_fold (b : Bool) (n : Nat) (f : Nat → Nat) : sumN (2 * n) f = sumN n (fun i => f (ovr b n i) + f (und b n i)) := by
 rw [sumN_add, Nat.two_mul, sumN_plus]
 cases b
 ·rw [show sumN n (fun i => f (und false n i)) = sumN n f from rfl, sumN_rev n (fun i => f (n + i)), Nat.add_comm]
  congr 1
  exact sumN_congr (fun i hi => by show f (n + (n - 1 - i)) = f (2 * n - 1 - i); rw [show n + (n - 1 - i) = 2 * n - 1 - i by omega])
 ·rw [show sumN n (fun i => f (und true n i)) = sumN n (fun i => f (n + i)) from rfl, sumN_rev n f]
  rfl
theorem turn_count {P : SL → Bool} (hP : ∀ a x, P (spec_l04Turn.togg a x) = P x) (a : Bool) (l : List SL) : (turnL a l).countP P = l.countP P := by
 unfold turnL
 rw [List.countP_map, List.countP_reverse]
 congr 1
 funext x
 exact hP a x
def gsum (P : SL → Bool) (H W : Nat) (g : Nat → Nat → List SL) : Nat := sumN H (fun y => sumN W (fun x => (g y x).countP P))
theorem gsum_along {P : SL → Bool} (hP : ∀ a x, P (spec_l04Turn.togg a x) = P x) (b : Bool) (H W : Nat) (g : Nat → Nat → List SL) : gsum P H W (gAlong b W g) = gsum P H (2 * W) g := by
 unfold gsum
 refine sumN_congr (fun y _ => ?_)
 rw [sumN_fold b]
 refine sumN_congr (fun x _ => ?_)
 unfold gAlong
 rw [List.countP_append, turn_count hP]
theorem gsum_across {P : SL → Bool} (hP : ∀ a x, P (spec_l04Turn.togg a x) = P x) (b : Bool) (H W : Nat) (g : Nat → Nat → List SL) : gsum P H W (gAcross b H g) = gsum P (2 * H) W g := by
 unfold gsum
 rw [sumN_fold b]
 refine sumN_congr (fun y _ => ?_)
 rw [← sumN_add]
 refine sumN_congr (fun x _ => ?_)
 unfold gAcross
 rw [List.countP_append, turn_count hP]
theorem gfold_count {P : SL → Bool} (hP : ∀ a x, P (spec_l04Turn.togg a x) = P x) : ∀ (t : List UInt8) (i j : Nat) (g : Nat → Nat → List SL), lrc t = i → t.length = i + j → (gfold t (2 ^ j) (2 ^ i) g).countP P = gsum P (2 ^ j) (2 ^ i) g
 | [], i, j, g, h1, h2 => by
  obtain rfl : i = 0 := by rw [← h1]; rfl
  obtain rfl : j = 0 := by simpa using h2.symm
  show (g 0 0).countP P = 0 + (0 + (g 0 0).countP P)
  omega
 | c :: t, i, j, g, h1, h2 => by
  rw [lrc_cons] at h1
  rw [List.length_cons] at h2
  have hle := lrc_le t
  rw [gfold]
  by_cases hc : c = 76 ∨ c = 82
  ·rw [if_pos hc] at h1
   obtain ⟨i, rfl⟩ : ∃ q, i = q + 1 := ⟨i - 1, by omega⟩
   rw [if_pos hc, Nat.pow_succ 2 i, Nat.mul_comm (2 ^ i) 2, Nat.mul_div_cancel_left _ (by omega : 0 < 2), gfold_count hP t i j _ (by omega) (by omega), gsum_along hP]
  ·rw [if_neg hc] at h1
   obtain ⟨j, rfl⟩ : ∃ q, j = q + 1 := ⟨j - 1, by omega⟩
   rw [if_neg hc, Nat.pow_succ 2 j, Nat.mul_comm (2 ^ j) 2, Nat.mul_div_cancel_left _ (by omega : 0 < 2), gfold_count hP t i j _ (by omega) (by omega), gsum_across hP]
def outL (W H : Nat) (v : SL) : Bool := !decide (0 ≤ v.f0 ∧ v.f0 < (W : Int) ∧ 0 ≤ v.f1 ∧ v.f1 < (H : Int))
theorem outL_togg (W H : Nat) (a : Bool) (v : SL) : outL W H (spec_l04Turn.togg a v) = outL W H v := by cases a <;> rfl
theorem sumN_zero (m : Nat) : sumN m (fun _ => 0) = 0 := by
 induction m with
 | zero => rfl
 | succ m ih => rw [sumN, ih]
theorem fold_in {s : List UInt8} {i j : Nat} (hl : lrc s = i) (hn : s.length = i + j) : ∀ v ∈ gfold s (2 ^ j) (2 ^ i) g0, 0 ≤ v.f0 ∧ v.f0 < ((2 ^ i : Nat) : Int) ∧ 0 ≤ v.f1 ∧ v.f1 < ((2 ^ j : Nat) : Int) := by
 have h := gfold_count (outL_togg (2 ^ i) (2 ^ j)) s i j g0 hl hn
 have hz : gsum (outL (2 ^ i) (2 ^ j)) (2 ^ j) (2 ^ i) g0 = 0 := by
  unfold gsum
  rw [← sumN_zero (2 ^ j)]
  refine sumN_congr (fun y hy => ?_)
  rw [← sumN_zero (2 ^ i)]
  refine sumN_congr (fun x hx => ?_)
  have hp : outL (2 ^ i) (2 ^ j) ⟨(x : Int), (y : Int), false, false⟩ = false := by
   unfold outL
   rw [decide_eq_true ⟨nn x, ltc hx, nn y, ltc hy⟩]
   rfl
  show ([⟨(x : Int), (y : Int), false, false⟩] : List SL).countP (outL (2 ^ i) (2 ^ j)) = 0
  rw [List.countP_cons, hp]
  rfl
 rw [hz, List.countP_eq_zero] at h
 intro v hv
 have := h v hv
 unfold outL at this
 simpa using this
theorem leaves_loopS (s : ByteArray) (hs : s.size ≤ 6) : ∀ (d pos i j C : Nat) (g : Nat → Nat → List SL), pos + d = s.size → (∀ x ∈ s.data.toList.drop pos, ([76, 82, 84, 66] : List UInt8).contains x = true) → lrc (s.data.toList.drop pos) = i → d = i + j → i ≤ 3 → j ≤ 3 → (∀ y x, y < 2 ^ j → x < 2 ^ i → (g y x).length = C) → C * 2 ^ d ≤ 64 →
  Ev (fun k => spec_l04Leaves.l0 k s (gridL (2 ^ j) (2 ^ i) g) (pos : Int)) (gfold (s.data.toList.drop pos) (2 ^ j) (2 ^ i) g) ∧ (gfold (s.data.toList.drop pos) (2 ^ j) (2 ^ i) g).length = C * 2 ^ d := by
 have hz : s.size = s.data.toList.length := by simp
 intro d
 induction d with
 | zero =>
  intro pos i j C g hp hall hl hd hi hj hC h64
  obtain rfl : i = 0 := by omega
  obtain rfl : j = 0 := by omega
  rw [List.drop_of_length_le (by omega), gfold]
  have n1 : ¬ (pos : Int) < (s.size : Int) := nltc (by omega)
  have a1 : (0 : Int) < ((gridL (2 ^ 0) (2 ^ 0) g).length : Int) := by rw [gridL_len]; decide
  have a2 : rd_L6 (gridL (2 ^ 0) (2 ^ 0) g) 0 = [g 0 0] := rfl
  have a3 : rd_L5 [g 0 0] 0 = g 0 0 := rfl
  have a4 : (0 : Int) < (([g 0 0] : List (List SL)).length : Int) := by show (0 : Int) < 1; decide
  refine ⟨Ev.step (f := fun _ => some (g 0 0)) (fun k => ?_) (Ev.now _), by rw [hC 0 0 (by decide) (by decide)]; omega⟩
  rw [spec_l04Leaves.l0, if_neg n1, if_pos a1, a2, if_pos a4, a3]
 | succ d ih =>
  intro pos i j C g hp hall hl hd hi hj hC h64
  have hil : pos < s.data.toList.length := by omega
  have hdr := List.drop_eq_getElem_cons hil
  have hb := bt_list s pos (by omega)
  rw [hdr] at hall hl ⊢
  have hc := hall _ List.mem_cons_self
  have hall' := fun x hx => hall x (List.mem_cons_of_mem _ hx)
  rw [lrc_cons] at hl
  generalize s.data.toList[pos] = c at hb hc hl ⊢
  have hCle : C ≤ 32 := by
   have h1 : 1 ≤ 2 ^ d := Nat.one_le_two_pow
   rw [Nat.pow_succ] at h64
   have h2 : C * 2 ≤ C * (2 ^ d * 2) := Nat.mul_le_mul_left _ (by omega)
   omega
  have h64' : (C + C) * 2 ^ d ≤ 64 := by rw [Nat.pow_succ] at h64; rw [Nat.add_mul, ← Nat.two_mul, ← Nat.mul_assoc, Nat.mul_comm 2 C, Nat.mul_assoc, Nat.mul_comm 2]; exact h64
  have hlen' : (C + C) * 2 ^ d = C * 2 ^ (d + 1) := by rw [Nat.pow_succ, Nat.add_mul, ← Nat.two_mul, ← Nat.mul_assoc, Nat.mul_comm 2 C, Nat.mul_assoc, Nat.mul_comm 2]
  by_cases h1 : c = 76 ∨ c = 82
  ·rw [if_pos h1] at hl
   obtain ⟨i, rfl⟩ : ∃ q, i = q + 1 := ⟨i - 1, by omega⟩
   have hW : 2 ^ (i + 1) = 2 * 2 ^ i := by rw [Nat.pow_succ, Nat.mul_comm]
   have hW4 : 2 ^ i ≤ 4 := p2le (n := 2) (by omega)
   have hH8 : 2 ^ j ≤ 8 := p2le (n := 3) hj
   have hH0 : 0 < 2 ^ j := Nat.pow_pos (by omega)
   rw [gfold, if_pos h1, hW, Nat.mul_div_cancel_left _ (by omega : 0 < 2)]
   have hg : ∀ y x, y < 2 ^ j → x < 2 * 2 ^ i → (g y x).length ≤ 64 := fun y x hy hx => by rw [hC y x hy (by rw [hW]; exact hx)]; omega
   have hC' : ∀ y x, y < 2 ^ j → x < 2 ^ i → (gAlong (c == 76) (2 ^ i) g y x).length = C + C := fun y x hy hx => by
    unfold gAlong
    rw [List.length_append, turnL_len, hC y _ hy (by rw [hW]; unfold ovr; split <;> omega), hC y _ hy (by rw [hW]; unfold und; split <;> omega)]
   obtain ⟨j1, j3⟩ := ih (pos + 1) i j (C + C) (gAlong (c == 76) (2 ^ i) g) (by omega) hall' (by omega) (by omega) (by omega) hj hC' h64'
   have a1 := along_ev (bt s (pos : Int)) hH8 hW4 hg
   rcases h1 with rfl | rfl
   ·have hb' : bt s (pos : Int) = 76 := hb
    refine ⟨leaves_stepA (by omega) (by omega) (.inl hb') a1 ?_, j3.trans hlen'⟩
    rw [hb']; exact j1
   ·have hb' : bt s (pos : Int) = 82 := hb
    refine ⟨leaves_stepA (by omega) (by omega) (.inr hb') a1 ?_, j3.trans hlen'⟩
    rw [hb']; exact j1
  ·rw [if_neg h1] at hl
   have hdj : lrc (s.data.toList.drop (pos + 1)) ≤ d := by
    have := lrc_le (s.data.toList.drop (pos + 1))
    rw [List.length_drop] at this
    omega
   have h2 : c = 84 ∨ c = 66 := by
    simp only [List.contains_cons, List.contains_nil, Bool.or_false, Bool.or_eq_true, beq_iff_eq] at hc
    rcases hc with e | e | e | e
    ·exact (h1 (.inl e)).elim
    ·exact (h1 (.inr e)).elim
    ·exact .inl e
    ·exact .inr e
   obtain ⟨j, rfl⟩ : ∃ q, j = q + 1 := ⟨j - 1, by omega⟩
   have hH : 2 ^ (j + 1) = 2 * 2 ^ j := by rw [Nat.pow_succ, Nat.mul_comm]
   have hH4 : 2 ^ j ≤ 4 := p2le (n := 2) (by omega)
   have hW8 : 2 ^ i ≤ 8 := p2le (n := 3) hi
   have hH0 : 0 < 2 ^ j := Nat.pow_pos (by omega)
   rw [gfold, if_neg h1, hH, Nat.mul_div_cancel_left _ (by omega : 0 < 2)]
   have hg : ∀ y x, y < 2 * 2 ^ j → x < 2 ^ i → (g y x).length ≤ 64 := fun y x hy hx => by rw [hC y x (by rw [hH]; exact hy) hx]; omega
   have hC' : ∀ y x, y < 2 ^ j → x < 2 ^ i → (gAcross (c == 84) (2 ^ j) g y x).length = C + C := fun y x hy hx => by
    unfold gAcross
    rw [List.length_append, turnL_len, hC _ x (by rw [hH]; unfold ovr; split <;> omega) hx, hC _ x (by rw [hH]; unfold und; split <;> omega) hx]
   obtain ⟨j1, j3⟩ := ih (pos + 1) i j (C + C) (gAcross (c == 84) (2 ^ j) g) (by omega) hall' (by omega) (by omega) hi (by omega) hC' h64'
   have a1 := across_ev (bt s (pos : Int)) hH4 hW8 hg
   rcases h2 with rfl | rfl
   ·have hb' : bt s (pos : Int) = 84 := hb
    refine ⟨leaves_stepB (by omega) (by omega) (.inl hb') a1 ?_, j3.trans hlen'⟩
    rw [hb']; exact j1
   ·have hb' : bt s (pos : Int) = 66 := hb
    refine ⟨leaves_stepB (by omega) (by omega) (.inr hb') a1 ?_, j3.trans hlen'⟩
    rw [hb']; exact j1
theorem leaves_spec {a b : Int} {s : ByteArray} (h : okSch a b s) : ∃ (i j : Nat), i ≤ 3 ∧ j ≤ 3 ∧ a = ((2 ^ i : Nat) : Int) ∧ b = ((2 ^ j : Nat) : Int) ∧ lrc s.data.toList = i ∧ s.data.toList.length = i + j ∧ Ev (fun k => spec_l04Leaves.f k a b s) (gfold s.data.toList (2 ^ j) (2 ^ i) g0) ∧ (gfold s.data.toList (2 ^ j) (2 ^ i) g0).length = 2 ^ (i + j) := by
 obtain ⟨i, j, hi, hj, ha, hb, hall, hl, hn⟩ := h
 have hz : s.size = s.data.toList.length := by simp
 refine ⟨i, j, hi, hj, ha, hb, hl, hn, ?_⟩
 subst ha hb
 have hW8 : 2 ^ i ≤ 8 := p2le (n := 3) hi
 have hH8 : 2 ^ j ≤ 8 := p2le (n := 3) hj
 obtain ⟨h1, h3⟩ := leaves_loopS s (by omega) s.size 0 i j 1 g0 (by omega) hall hl (by omega) hi hj (fun _ _ _ _ => rfl) (by rw [Nat.one_mul]; exact p2le (n := 6) (by omega))
 rw [List.drop_zero] at h1 h3
 refine ⟨?_, ?_⟩
 ·unfold spec_l04Leaves.f
  exact Ev.bind (specStart_ev hH8 hW8) h1
 ·rw [h3, hz, hn, Nat.one_mul]
theorem powerS (a : Int) : (∃ j : Nat, j ≤ 3 ∧ a = ((2 ^ j : Nat) : Int) ∧ spec_l04Power.f a = some ((j : Int), true)) ∨ spec_l04Power.f a = some (0, false) := by
 unfold spec_l04Power.f
 by_cases h1 : a = 1
 ·exact .inl ⟨0, by decide, h1, if_pos h1⟩
 by_cases h2 : a = 2
 ·exact .inl ⟨1, by decide, h2, by rw [if_neg h1, if_pos h2]; rfl⟩
 by_cases h4 : a = 4
 ·exact .inl ⟨2, by decide, h4, by rw [if_neg h1, if_neg h2, if_pos h4]; rfl⟩
 by_cases h8 : a = 8
 ·exact .inl ⟨3, by decide, h8, by rw [if_neg h1, if_neg h2, if_neg h4, if_pos h8]; rfl⟩
 ·exact .inr (by rw [if_neg h1, if_neg h2, if_neg h4, if_neg h8])
theorem codeS (a b : Int) (s : ByteArray) (hs : s.size ≤ 1048576) : ∃ c : Int, Ev (fun k => spec_l04Code.f k a b s) c ∧ 0 ≤ c ∧ c ≤ 2 ∧ (c = 0 → okSch a b s) := by
 have bad : spec_l04Sheet.f a b = some false → Ev (fun k => spec_l04Code.f k a b s) 1 := fun h => by
  unfold spec_l04Code.f
  rw [h]
  exact Ev.bind (Ev.now _) (Ev_ite_f (by simp) (Ev.now _))
 rcases powerS a with ⟨i, i1, i2, i3⟩ | i3
 ·rcases powerS b with ⟨j, j1, j2, j3⟩ | j3
  ·have hsh : spec_l04Sheet.f a b = some true := by unfold spec_l04Sheet.f; rw [i3, j3]; rfl
   have e := specIsScheme_loop s true true hs s.size 0 (by omega) (i : Int) (j : Int) (by omega) (by omega) (by omega) (by omega)
   rw [List.drop_zero] at e
   have e2 : Ev (fun k => spec_IsScheme.f k a b s) (sL true true s.data.toList (i : Int) (j : Int)) := by
    unfold spec_IsScheme.f
    rw [i3, j3]
    exact Ev.bind (Ev.now _) (Ev.bind (Ev.now _) e)
   have hiff := sL_iff true true s.data.toList (i : Int) (j : Int)
   generalize sL true true s.data.toList (i : Int) (j : Int) = v at e2 hiff
   cases v with
   | true =>
    obtain ⟨g1, _, _, g4, g5⟩ := hiff.1 rfl
    refine ⟨0, ?_, by omega, by omega, fun _ => ⟨i, j, i1, j1, i2, j2, g1, by omega, by omega⟩⟩
    unfold spec_l04Code.f
    rw [hsh]
    exact Ev.bind (Ev.now _) (Ev_ite_t rfl (Ev.bind e2 (Ev_ite_t rfl (Ev.now _))))
   | false =>
    refine ⟨2, ?_, by omega, by omega, fun z => by cases z⟩
    unfold spec_l04Code.f
    rw [hsh]
    exact Ev.bind (Ev.now _) (Ev_ite_t rfl (Ev.bind e2 (Ev_ite_f (by simp) (Ev.now _))))
  ·exact ⟨1, bad (by unfold spec_l04Sheet.f; rw [i3, j3]; rfl), by omega, by omega, fun z => by cases z⟩
 ·refine ⟨1, bad ?_, by omega, by omega, fun z => by cases z⟩
  unfold spec_l04Sheet.f
  rw [i3]
  rcases powerS b with ⟨j, j1, j2, j3⟩ | j3 <;> (rw [j3]; rfl)
theorem rdT_get {l : List SL} {i : Nat} (h : i < l.length) : rd_T102 l (i : Int) = l[i] := by
 unfold rd_T102
 rw [Int.toNat_natCast, List.getD_eq_getElem?_getD, List.getElem?_eq_getElem h]
 rfl
/-- One leaf's pages, laid into the form's three lists. -/
def dn5 (v : SL) : Bool := v.f2 != v.f3
def fStep (a : Nat) (i : Nat) (v : SL) (x : List Int × List Int × List Int) : List Int × List Int × List Int :=
 (x.1.set (v.f1.toNat * a + v.f0.toNat) (if dn5 v = true then 2 * (i : Int) + 2 else 2 * (i : Int) + 1), x.2.1.set (v.f1.toNat * a + a - 1 - v.f0.toNat) (if dn5 v = true then 2 * (i : Int) + 1 else 2 * (i : Int) + 2), if v.f3 = true then x.2.2.set (v.f1.toNat * a + v.f0.toNat) 1 else x.2.2)
def fAll (a : Nat) : List SL → Nat → List Int × List Int × List Int → List Int × List Int × List Int
 | [], _, x => x
 | v :: t, i, x => fAll a t (i + 1) (fStep a i v x)
theorem fStep_len (a i : Nat) (v : SL) (x : List Int × List Int × List Int) : (fStep a i v x).1.length = x.1.length ∧ (fStep a i v x).2.1.length = x.2.1.length ∧ (fStep a i v x).2.2.length = x.2.2.length := by
 unfold fStep
 refine ⟨by simp, by simp, ?_⟩
 by_cases h : v.f3 = true
 ·rw [if_pos h]; simp
 ·rw [if_neg h]
theorem fAll_len (a : Nat) : ∀ (l : List SL) (i : Nat) (x : List Int × List Int × List Int), (fAll a l i x).1.length = x.1.length ∧ (fAll a l i x).2.1.length = x.2.1.length ∧ (fAll a l i x).2.2.length = x.2.2.length
 | [], _, _ => ⟨rfl, rfl, rfl⟩
 | v :: t, i, x => by
  have h1 := fAll_len a t (i + 1) (fStep a i v x)
  have h2 := fStep_len a i v x
  exact ⟨h1.1.trans h2.1, h1.2.1.trans h2.2.1, h1.2.2.trans h2.2.2⟩
theorem cellN {A C : Nat} {v : SL} (hA : A ≤ 8) (hC : C ≤ 8) (h0 : 0 ≤ v.f0) (h1 : v.f0 < (A : Int)) (h2 : 0 ≤ v.f1) (h3 : v.f1 < (C : Int)) :
  wrap64 (wrap64 (v.f1 * (A : Int)) + v.f0) = ((v.f1.toNat * A + v.f0.toNat : Nat) : Int) ∧ wrap64 (wrap64 (wrap64 (wrap64 (v.f1 * (A : Int)) + (A : Int)) - 1) - v.f0) = ((v.f1.toNat * A + A - 1 - v.f0.toNat : Nat) : Int) ∧ v.f1.toNat * A + v.f0.toNat < A * C ∧ v.f1.toNat * A + A - 1 - v.f0.toNat < A * C := by
 obtain ⟨f0, f1, f2, f3⟩ := v
 simp only at h0 h1 h2 h3 ⊢
 obtain ⟨x, rfl⟩ := Int.eq_ofNat_of_zero_le h0
 obtain ⟨y, rfl⟩ := Int.eq_ofNat_of_zero_le h2
 have hx : x < A := Int.ofNat_lt.1 h1
 have hy : y < C := Int.ofNat_lt.1 h3
 have e3 : (y : Int) * (A : Int) = ((y * A : Nat) : Int) := (Int.natCast_mul _ _).symm
 have hyA : (y + 1) * A ≤ C * A := Nat.mul_le_mul_right A hy
 rw [Nat.mul_comm C A, Nat.succ_mul] at hyA
 have h64 : A * C ≤ 64 := Nat.mul_le_mul hA hC
 simp only [Int.toNat_natCast]
 rw [e3]
 generalize y * A = q at hyA
 generalize A * C = n at hyA h64
 refine ⟨?_, ?_, by omega, by omega⟩
 ·rw [w64 (x := (q : Int)) (by omega) (by omega), w64 (by omega) (by omega)]; omega
 ·rw [w64 (x := (q : Int)) (by omega) (by omega), w64 (x := (q : Int) + (A : Int)) (by omega) (by omega), w64 (x := (q : Int) + (A : Int) - 1) (by omega) (by omega), w64 (by omega) (by omega)]; omega
theorem zero_list (n : Nat) (hn : n ≤ 64) : 0 ≤ (n : Int) ∧ ((n : Int)).toNat ≤ 35184372088832 ∧ List.replicate ((n : Int)).toNat (0 : Int) = List.replicate n 0 := ⟨by omega, by omega, by rw [Int.toNat_natCast]⟩
theorem page_ok (i : Nat) (h : i ≤ 64) : wrap64 (wrap64 (2 * (i : Int)) + 2) = 2 * (i : Int) + 2 ∧ wrap64 (wrap64 (2 * (i : Int)) + 1) = 2 * (i : Int) + 1 := by
 constructor
 ·rw [w64 (x := 2 * (i : Int)) (by omega) (by omega), w64 (by omega) (by omega)]
 ·rw [w64 (x := 2 * (i : Int)) (by omega) (by omega), w64 (by omega) (by omega)]
theorem fAll_ev (A C : Nat) (hA : A ≤ 8) (hC : C ≤ 8) (l : List SL) (hl : l.length ≤ 64) (hin : ∀ v ∈ l, 0 ≤ v.f0 ∧ v.f0 < (A : Int) ∧ 0 ≤ v.f1 ∧ v.f1 < (C : Int)) : ∀ (d i : Nat), i + d = l.length → ∀ x : List Int × List Int × List Int, x.1.length = A * C → x.2.1.length = A * C → x.2.2.length = A * C → Ev (fun k => spec_l05Form.l0 k (A : Int) l (i : Int) (A : Int) (C : Int) x.1 x.2.1 x.2.2) ((A : Int), (C : Int), (fAll A (l.drop i) i x).1, (fAll A (l.drop i) i x).2.1, (fAll A (l.drop i) i x).2.2) := by
 intro d
 induction d with
 | zero =>
  intro i hi x _ _ _
  rw [List.drop_of_length_le (by omega), fAll]
  exact Ev.step (f := fun _ => some ((A : Int), (C : Int), x.1, x.2.1, x.2.2)) (fun k => by rw [spec_l05Form.l0, if_neg (by omega)]) (Ev.now _)
 | succ d ih =>
  intro i hi x h1 h2 h3
  have hil : i < l.length := by omega
  rw [List.drop_eq_getElem_cons hil, fAll]
  have hg := rdT_get hil
  obtain ⟨v0, v1, v2, v3⟩ := hin _ (List.getElem_mem hil)
  generalize l[i] = v at hg v0 v1 v2 v3
  have hs := fStep_len A i v x
  have st := ih (i + 1) (by omega) (fStep A i v x) (hs.1.trans h1) (hs.2.1.trans h2) (hs.2.2.trans h3)
  have g0 : (i : Int) < (l.length : Int) := by omega
  have g1 : 0 ≤ (i : Int) := by omega
  have hi64 : i ≤ 64 := by omega
  have hw := w64n i (Nat.lt_of_le_of_lt hi64 (by decide))
  obtain ⟨u2, u1⟩ := page_ok i hi64
  obtain ⟨c1, c2, c3, c4⟩ := cellN hA hC v0 v1 v2 v3
  have f1 : ((v.f1.toNat * A + v.f0.toNat : Nat) : Int) < (x.1.length : Int) := by rw [h1]; exact Int.ofNat_lt.2 c3
  have f2 : ((v.f1.toNat * A + A - 1 - v.f0.toNat : Nat) : Int) < (x.2.1.length : Int) := by rw [h2]; exact Int.ofNat_lt.2 c4
  have f3 : ((v.f1.toNat * A + v.f0.toNat : Nat) : Int) < (x.2.2.length : Int) := by rw [h3]; exact Int.ofNat_lt.2 c3
  have z1 : 0 ≤ ((v.f1.toNat * A + v.f0.toNat : Nat) : Int) := Int.natCast_nonneg _
  have z2 : 0 ≤ ((v.f1.toNat * A + A - 1 - v.f0.toNat : Nat) : Int) := Int.natCast_nonneg _
  have J : ∀ (U D : Int) (r : Int × Int × List Int × List Int × List Int), Ev (fun k => spec_l05Form.l0 k (A : Int) l ((i + 1 : Nat) : Int) (A : Int) (C : Int) (x.1.set (v.f1.toNat * A + v.f0.toNat) U) (x.2.1.set (v.f1.toNat * A + A - 1 - v.f0.toNat) D) (if v.f3 = true then x.2.2.set (v.f1.toNat * A + v.f0.toNat) 1 else x.2.2)) r → Ev (fun k => spec_l05Form.j1 k (A : Int) l (i : Int) U D (A : Int) (C : Int) x.1 x.2.1 x.2.2 v.f0 v.f1 v.f2 v.f3) r := by
   intro U D r hr
   refine Ev.step (fun k => ?_) hr
   rw [spec_l05Form.j1, c1, c2, if_pos z1, if_pos f1, Int.toNat_natCast, Option.bind_some, if_pos z2, if_pos f2, Int.toNat_natCast, Option.bind_some, hw]
   by_cases h : v.f3 = true
   ·rw [if_pos h, if_pos h, if_pos f3]
   ·rw [if_neg h, if_neg h]
  by_cases hd : dn5 v = true
  ·have e := J (2 * (i : Int) + 2) (2 * (i : Int) + 1) ((A : Int), (C : Int), (fAll A (l.drop (i + 1)) (i + 1) (fStep A i v x)).1, (fAll A (l.drop (i + 1)) (i + 1) (fStep A i v x)).2.1, (fAll A (l.drop (i + 1)) (i + 1) (fStep A i v x)).2.2) (by
    have st' := st
    unfold fStep at st' ⊢
    rw [if_pos hd, if_pos hd] at st' ⊢
    exact st')
   refine Ev.step (fun k => ?_) e
   rw [spec_l05Form.l0, if_pos g0, if_pos g1, hg, spec_l04Down.f, Option.bind_some, if_pos (show (v.f2 != v.f3) = true from hd), u2, u1]
  ·have e := J (2 * (i : Int) + 1) (2 * (i : Int) + 2) ((A : Int), (C : Int), (fAll A (l.drop (i + 1)) (i + 1) (fStep A i v x)).1, (fAll A (l.drop (i + 1)) (i + 1) (fStep A i v x)).2.1, (fAll A (l.drop (i + 1)) (i + 1) (fStep A i v x)).2.2) (by
    have st' := st
    unfold fStep at st' ⊢
    rw [if_neg hd, if_neg hd] at st' ⊢
    exact st')
   refine Ev.step (fun k => ?_) e
   rw [spec_l05Form.l0, if_pos g0, if_pos g1, hg, spec_l04Down.f, Option.bind_some, if_neg (show ¬ (v.f2 != v.f3) = true from hd), u2, u1]
def z3_ (n : Nat) : List Int × List Int × List Int := (List.replicate n 0, List.replicate n 0, List.replicate n 0)
theorem specForm {a b : Int} {s : ByteArray} (h : okSch a b s) : ∃ (A C : Nat) (l : List SL), A ≤ 8 ∧ C ≤ 8 ∧ 0 < A ∧ 0 < C ∧ a = (A : Int) ∧ b = (C : Int) ∧ l.length = A * C ∧ (∀ v ∈ l, 0 ≤ v.f0 ∧ v.f0 < (A : Int) ∧ 0 ≤ v.f1 ∧ v.f1 < (C : Int)) ∧ Ev (fun k => spec_l04Leaves.f k a b s) l ∧ Ev (fun k => spec_l05Form.f k a b s) (a, b, (fAll A l 0 (z3_ (A * C))).1, (fAll A l 0 (z3_ (A * C))).2.1, (fAll A l 0 (z3_ (A * C))).2.2) := by
 obtain ⟨i, j, hi, hj, ha, hb, hl, hn, h1, h2⟩ := leaves_spec h
 have hin := fold_in (i := i) (j := j) hl hn
 rw [Nat.pow_add] at h2
 have hA : 2 ^ i ≤ 8 := p2le (n := 3) hi
 have hC : 2 ^ j ≤ 8 := p2le (n := 3) hj
 have hA0 : 0 < 2 ^ i := Nat.pow_pos (by omega)
 have hC0 : 0 < 2 ^ j := Nat.pow_pos (by omega)
 refine ⟨2 ^ i, 2 ^ j, _, hA, hC, hA0, hC0, ha, hb, h2, hin, h1, ?_⟩
 generalize 2 ^ i = A at *
 generalize 2 ^ j = C at *
 generalize gfold s.data.toList C A g0 = l at *
 have h64 : A * C ≤ 64 := Nat.mul_le_mul hA hC
 have hab : wrap64 (a * b) = ((A * C : Nat) : Int) := by
  have e : a * b = ((A * C : Nat) : Int) := by rw [ha, hb]; exact (Int.natCast_mul _ _).symm
  rw [e]
  generalize A * C = n at h64
  exact w64 (by omega) (by omega)
 have st := fAll_ev A C hA hC l (by omega) hin l.length 0 (by omega) (z3_ (A * C)) (by simp [z3_]) (by simp [z3_]) (by simp [z3_])
 rw [List.drop_zero] at st
 obtain ⟨n0, n1, n2⟩ := zero_list (A * C) h64
 unfold spec_l05Form.f
 rw [hab]
 refine Ev_ite_t n0 (Ev_ite_t n1 (Ev.bind h1 ?_))
 rw [n2]
 subst ha hb
 exact st
theorem take_map_succ' (l : List Int) (g : Int → Int) (i : Nat) (h : i < l.length) : (l.take (i + 1)).map g = (l.take i).map g ++ [g l[i]] := by
 rw [List.take_add_one, List.getElem?_eq_getElem h, List.map_append]
 rfl
theorem shiftS_ev (l : List Int) (by_ : Int) (hl : l.length ≤ 1000000) : Ev (fun k => spec_l05Shift.f k l by_) (l.map (fun x => wrap64 (x + by_))) := by
 have loop : ∀ (d i : Nat), i + d = l.length → Ev (fun k => spec_l05Shift.l0 k l by_ ((l.take i).map (fun x => wrap64 (x + by_))) (i : Int)) (l.map (fun x => wrap64 (x + by_))) := by
  intro d
  induction d with
  | zero =>
   intro i hi
   obtain rfl : i = l.length := by omega
   rw [List.take_length]
   exact Ev.step (f := fun _ => some (l.map (fun x => wrap64 (x + by_)))) (fun k => by rw [spec_l05Shift.l0, if_neg (by omega)]) (Ev.now _)
  | succ d ih =>
   intro i hi
   have hil : i < l.length := by omega
   have h1 := ih (i + 1) (by omega)
   rw [take_map_succ' l _ i hil] at h1
   have hlen : ((l.take i).map (fun x => wrap64 (x + by_))).length < 17592186044416 := by rw [List.length_map, List.length_take]; omega
   have w := w64n i (by omega)
   refine Ev.step (fun k => ?_) h1
   rw [spec_l05Shift.l0, if_pos (by omega), if_pos (by omega), if_pos hlen, rd_get hil, w]
 exact Ev.congr (fun _ => by rw [spec_l05Shift.f]; rfl) (loop l.length 0 (by omega))
theorem imposeS (a b : Int) (s : ByteArray) (hs : s.size ≤ 1048576) : EvP (fun k => spec_ImposeSheet.f k a b s) (fun r => (r.2.2.2.2.2 = 0 → okSch a b s ∧ 0 < r.2.2.1.length ∧ r.2.2.1.length ≤ 64 ∧ r.2.2.2.1.length = r.2.2.1.length ∧ r.2.2.2.2.1.length = r.2.2.1.length)) := by
 obtain ⟨c, c1, c2, c3, c4⟩ := codeS a b s hs
 unfold spec_ImposeSheet.f
 refine EvP.bind c1 ?_
 by_cases hc : c = 0
 ·obtain ⟨A, C, l, hA, hC, hA0, hC0, ha, hb, hl, hin, h1, h2⟩ := specForm (c4 hc)
  have h64 : A * C ≤ 64 := Nat.mul_le_mul hA hC
  have h0 : 0 < A * C := Nat.mul_pos hA0 hC0
  refine EvP.ite_t hc (EvP.bind h2 (EvP.now ?_))
  intro _
  obtain ⟨q1, q2, q3⟩ := fAll_len A l 0 (z3_ (A * C))
  simp only [z3_, List.length_replicate] at q1 q2 q3 ⊢
  exact ⟨c4 hc, by omega, by omega, by omega, by omega⟩
 ·exact EvP.ite_f hc (EvP.now (fun z => (hc z).elim))
theorem drawForm_ok {c : List Int} {a s : Int} (h0 : Src c a s) : EvP (fun k => spec_l05Draw.f k c a s) (fun r => Src c r.2.2.2.2.2.2.1 r.2.2.2.2.2.2.2 ∧ 0 < r.2.2.1.length ∧ r.2.2.1.length ≤ 100 ∧ r.2.2.2.1.length ≤ 100 ∧ r.2.2.2.2.1.length ≤ 100 ∧ r.2.2.2.2.2.1.size ≤ 7) := by
 obtain ⟨w, h, t, a1, s1, d1, h1, ht, _, _, _, _⟩ := drawSheet_ok h0
 obtain ⟨⟨w', h', F, B, H, e⟩, i1, i2⟩ := imposeS w h t (by omega)
 unfold spec_l05Draw.f
 refine EvP.bind d1 (EvP.bind i1 ?_)
 simp only at i2
 by_cases he : e = 0
 ·obtain ⟨_, f0, f1, f2, f3⟩ := i2 he
  refine EvP.ite_t he ?_
  obtain ⟨m, a2, s2, e2, h2, m0, _⟩ := next_ok h1 200 (by omega)
  obtain ⟨q, a3, s3, e3, h3, _⟩ := pick_ok h2 [0, 0, 16, m] (by simp) (by simp)
  have sF := shiftS_ev F q (by omega)
  have sB := shiftS_ev B q (by omega)
  have lF : (F.map (fun x => wrap64 (x + q))).length = F.length := by simp
  have lB : (B.map (fun x => wrap64 (x + q))).length = B.length := by simp
  generalize F.map (fun x => wrap64 (x + q)) = F' at sF lF
  generalize B.map (fun x => wrap64 (x + q)) = B' at sB lB
  obtain ⟨k, a4, s4, e4, h4, k0, k1⟩ := next_ok h3 (F'.length : Int) (by omega)
  have k2 : k < (F'.length : Int) := k1 (by omega)
  obtain ⟨z, a5, s5, e5, h5, _, _⟩ := next_ok h4 16 (by omega)
  refine EvP.bind (Ev.eq e2) (EvP.bind (Ev.eq e3) (EvP.bind sF (EvP.bind sB (EvP.bind (Ev.eq e4) (EvP.bind (Ev.eq e5) ?_)))))
  have fin : ∀ (F B H : List Int) (a' s' : Int), Src c a' s' → 0 < F.length → F.length ≤ 100 → B.length ≤ 100 → H.length ≤ 100 → EvP (fun k => spec_l05Draw.j0 k t c a' s' w' h' F B H) (fun r => Src c r.2.2.2.2.2.2.1 r.2.2.2.2.2.2.2 ∧ 0 < r.2.2.1.length ∧ r.2.2.1.length ≤ 100 ∧ r.2.2.2.1.length ≤ 100 ∧ r.2.2.2.2.1.length ≤ 100 ∧ r.2.2.2.2.2.1.size ≤ 7) := fun F B H a' s' p1 p2 p3 p4 p5 =>
   EvP.step (g := fun _ => some (w', h', F, B, H, t, a', s')) (fun k => by rw [spec_l05Draw.j0]) (EvP.now ⟨p1, p2, p3, p4, p5, ht⟩)
  have hH : H.length ≤ 100 := by omega
  have hk : k < (H.length : Int) := by omega
  have hk2 : k < (B'.length : Int) := by omega
  have hH1 : H.length < 17592186044416 := by omega
  have a1_ : 0 < F'.length := by omega
  have a2_ : F'.length ≤ 100 := by omega
  have a3_ : B'.length ≤ 100 := by omega
  have st : ∀ (l : List Int) (q : Nat) (v : Int), (l.set q v).length = l.length := fun l q v => List.length_set
  by_cases z0 : z = 0
  ·exact EvP.ite_t z0 (EvP.ite_t k0 (EvP.ite_t hk (fin _ _ _ _ _ h5 a1_ a2_ a3_ (by rw [st]; exact hH))))
  refine EvP.ite_f z0 ?_
  by_cases z1 : z = 1
  ·exact EvP.ite_t z1 (EvP.ite_t k0 (EvP.ite_t k2 (EvP.ite_t hk2 (fin _ _ _ _ _ h5 (by rw [st]; exact a1_) (by rw [st]; exact a2_) (by rw [st]; exact a3_) hH))))
  refine EvP.ite_f z1 ?_
  by_cases z2 : z = 2
  ·obtain ⟨u, a6, s6, e6, h6, _⟩ := pick_ok h5 [0, 1, rd F' 0, 1000000000] (by simp) (by simp)
   exact EvP.ite_t z2 (EvP.ite_t (by omega) (EvP.bind (Ev.eq e6) (EvP.ite_t k0 (EvP.ite_t k2 (fin _ _ _ _ _ h6 (by rw [st]; exact a1_) (by rw [st]; exact a2_) a3_ hH)))))
  refine EvP.ite_f z2 ?_
  by_cases z3 : z = 3
  ·obtain ⟨u, a6, s6, e6, h6, _, _⟩ := next_ok h5 3 (by omega)
   refine EvP.ite_t z3 (EvP.bind (Ev.eq e6) ?_)
   by_cases u0 : u = 0
   ·exact EvP.ite_t u0 (EvP.ite_t hH1 (fin _ _ _ _ _ h6 a1_ a2_ a3_ (by rw [List.length_append]; show H.length + 1 ≤ 100; omega)))
   ·exact EvP.ite_f u0 (fin _ _ _ _ _ h6 a1_ a2_ a3_ hH)
  exact EvP.ite_f z3 (fin _ _ _ _ _ h5 a1_ a2_ a3_ hH)
 ·exact EvP.ite_f he (EvP.now ⟨h1, by simp, by simp, by simp, by simp, ht⟩)
theorem likeInts_ev (l : List Int) (hl : l.length ≤ 35184372088832) : Ev (fun k => laws_likeInts.f k l l) true := by
 have loop : ∀ (d i : Nat), i + d = l.length → Ev (fun k => laws_likeInts.l0 k l l (i : Int)) true := by
  intro d
  induction d with
  | zero =>
   intro i hi
   refine Ev.step (f := fun _ => some true) (fun k => by rw [laws_likeInts.l0, if_neg (by omega)]) (Ev.now _)
  | succ d ih =>
   intro i hi
   refine Ev.step (f := fun k => laws_likeInts.l0 k l l ((i + 1 : Nat) : Int)) (fun k => by rw [laws_likeInts.l0, if_pos (by omega), if_pos (by omega), if_pos (by omega), if_pos rfl, w64n i (by omega)]) ?_
   exact ih (i + 1) (by omega)
 refine Ev.congr (f := fun k => laws_likeInts.l0 k l l ((0 : Nat) : Int)) (fun k => ?_) (loop l.length 0 (by omega))
 simp only [laws_likeInts.f, if_true]
 rfl
theorem likeForms_ev (a b : Int) (F B H : List Int) (l1 : F.length ≤ 1048576) (l2 : B.length ≤ 1048576) (l3 : H.length ≤ 1048576) : Ev (fun k => laws_likeForms9.f k a b F B H a b F B H) true := by
 unfold laws_likeForms9.f
 exact Ev_ite_t rfl (Ev_ite_t rfl (Ev.bind (likeInts_ev F (by omega)) (Ev_ite_t rfl (Ev.bind (likeInts_ev B (by omega)) (Ev_ite_t rfl (Ev.bind (likeInts_ev H (by omega)) (Ev.now _)))))))
theorem place_back {A C i : Nat} (hA : 0 < A) (hA8 : A ≤ 8) (hC8 : C ≤ 8) (hi : i < A * C) : wrap64 (wrap64 (wrap64 (Int.tdiv (i : Int) (A : Int)) * (A : Int)) + Int.tmod (i : Int) (A : Int)) = (i : Int) ∧ wrap64 (wrap64 (wrap64 (wrap64 (wrap64 (Int.tdiv (i : Int) (A : Int)) * (A : Int)) + (A : Int)) - 1) - wrap64 (wrap64 ((A : Int) - 1) - Int.tmod (i : Int) (A : Int))) = (i : Int) := by
 obtain ⟨g1, g2, g3⟩ := cell_lt hA hi
 have h64 : A * C ≤ 64 := Nat.mul_le_mul hA8 hC8
 have e1' : Int.tdiv (i : Int) (A : Int) = ((i / A : Nat) : Int) := by
  rw [Int.tdiv_eq_ediv_of_nonneg (by omega), ← Int.natCast_ediv]
 have e2 : Int.tmod (i : Int) (A : Int) = ((i % A : Nat) : Int) := by
  rw [Int.tmod_eq_emod_of_nonneg (by omega), ← Int.natCast_emod]
 have hd := Nat.div_add_mod i A
 rw [Nat.mul_comm] at hd
 rw [e1', e2]
 clear e1' e2
 generalize i / A = q at g1 g2 hd
 generalize i % A = s at g1 g3 hd
 have e3 : (q : Int) * (A : Int) = ((q * A : Nat) : Int) := (Int.natCast_mul _ _).symm
 rw [w64 (x := (q : Int)) (by omega) (by omega), e3]
 generalize q * A = p at hd
 generalize A * C = n at hi h64
 refine ⟨?_, ?_⟩
 ·rw [w64 (x := (p : Int)) (by omega) (by omega), w64 (by omega) (by omega)]; omega
 ·rw [w64 (x := (p : Int)) (by omega) (by omega), w64 (x := (p : Int) + (A : Int)) (by omega) (by omega), w64 (x := (p : Int) + (A : Int) - 1) (by omega) (by omega), w64 (x := (A : Int) - 1) (by omega) (by omega), w64 (x := (A : Int) - 1 - (s : Int)) (by omega) (by omega), w64 (by omega) (by omega)]; omega
theorem FnPagePlaces : laws_FnPagePlaces.Pure := by
 intro l0 _ _ hw
 apply Ev.rounds
 unfold laws_FnPagePlaces.f laws_big.f
 refine Ev.bind (Ev.now _) ?_
 by_cases hb : (l0.length : Int) > 4096
 ·exact Ev_ite_t (decide_eq_true hb) (Ev.now _)
 refine Ev_ite_f (by simpa using hb) ?_
 obtain ⟨at0, sd0, e0, h0⟩ := from_ok l0 (by omega) (fun x hx => wf8 (hw x hx))
 obtain ⟨⟨a, b, F, B, H, t, a1, s1⟩, d1, d2⟩ := drawForm_ok h0
 obtain ⟨d2, f0, f1, f2, f3, f4⟩ := d2
 simp only at d2 f0 f1 f2 f3 f4
 obtain ⟨m, a2, s2, e2, _, _, _⟩ := next_ok d2 40 (by omega)
 generalize hp : wrap64 (wrap64 (rd F 0 + m) - 20) = p
 have hdp : Ev (fun k => spec_DrawPlaceOfPage.f k l0) (a, b, F, B, H, p) := by
  unfold spec_DrawPlaceOfPage.f
  refine Ev.bind e0 (Ev.bind d1 (Ev_ite_t (by show (0 : Int) < (F.length : Int); omega) (Ev.bind (Ev.eq e2) ?_)))
  subst hp
  exact Ev.now _
 have hdt : Ev (fun k => spec_DrawTurnForm.f k l0) (a, b, F, B, H) := by
  unfold spec_DrawTurnForm.f spec_DrawIsForm.f
  exact Ev.bind (Ev.bind e0 (Ev.bind d1 (Ev.now _))) (Ev.now _)
 obtain ⟨⟨r1, r2, r3, r4⟩, p1, p2, p3⟩ := placeOfPage_two a b F B H p (by omega)
 obtain ⟨⟨c, d, F', B', H', e⟩, t1, t2, t3⟩ := turnForm_two a b F B H (by omega)
 have hl : F'.length ≤ 1048576 ∧ B'.length ≤ 1048576 ∧ H'.length ≤ 1048576 := by
  rcases t3 with ⟨z, _⟩ | ⟨_, A, C, _, hA8, hC8, _, _, hF, hB, hH, z⟩
  ·simp only [Prod.mk.injEq] at z
   obtain ⟨_, _, rfl, rfl, rfl, _⟩ := z
   simp
  ·simp only [Prod.mk.injEq] at z
   obtain ⟨_, _, rfl, rfl, rfl, _⟩ := z
   have h64 : A * C ≤ 64 := Nat.mul_le_mul hA8 hC8
   exact ⟨by omega, by omega, by rw [TH_length]; omega⟩
 have hj1 : Ev (fun k => laws_FnPagePlaces.j1 k p r1 r2 r3 r4 a b F B H) true := by
  by_cases hc : r4 = 0
  ·obtain ⟨hok, i, hi⟩ := p3 hc
   obtain ⟨A, C, hA, hA8, hC, hC8, ha, _, hF, hB, _⟩ := formOk_sides hok
   rcases hi with ⟨z, hi, hpi⟩ | ⟨z, hi, hpi⟩
   ·simp only [Prod.mk.injEq] at z
    obtain ⟨rfl, rfl, rfl, rfl⟩ := z
    have z1 : 0 ≤ (i : Int) := by omega
    have z2 : (i : Int) < (F.length : Int) := by omega
    have z3 : (p == p) = true := by simp
    have hg := rd_get hi
    obtain ⟨q1, _⟩ := place_back hA hA8 hC8 (by omega : i < A * C)
    exact Ev.step (f := fun _ => some true) (fun k => by rw [laws_FnPagePlaces.j1, ha, q1, if_pos rfl, if_pos rfl, if_pos z1, if_pos z2, hg, hpi, z3]) (Ev.now _)
   ·simp only [Prod.mk.injEq] at z
    obtain ⟨rfl, rfl, rfl, rfl⟩ := z
    have z1 : 0 ≤ (i : Int) := by omega
    have z2 : (i : Int) < (B.length : Int) := by omega
    have z3 : (p == p) = true := by simp
    have z4 : ¬ (1 : Int) = 0 := by decide
    have hg := rd_get hi
    obtain ⟨_, q1⟩ := place_back hA hA8 hC8 (by omega : i < A * C)
    exact Ev.step (f := fun _ => some true) (fun k => by rw [laws_FnPagePlaces.j1, ha, q1, if_pos rfl, if_neg z4, if_pos rfl, if_pos z1, if_pos z2, hg, hpi, z3]) (Ev.now _)
  ·exact Ev.step (f := fun _ => some true) (fun k => by rw [laws_FnPagePlaces.j1, if_neg hc]) (Ev.now _)
 refine Ev.bind hdp (Ev.bind p2 (Ev.bind p1 (Ev.bind hdt (Ev.bind t2 (Ev.bind t1 (Ev_ite_t rfl (Ev_ite_t rfl (Ev_ite_t rfl (Ev_ite_t rfl (Ev_ite_t rfl (Ev.bind (likeForms_ev c d F' B' H' hl.1 hl.2.1 hl.2.2) ?_)))))))))))
 by_cases he : e = 0
 ·rcases t3 with ⟨z, _⟩ | ⟨hok, A, C, hA, hA8, hC8, ha, hb', hF, hB, hH, z⟩
  ·simp only [Prod.mk.injEq] at z
   omega
  ·simp only [Prod.mk.injEq] at z
   obtain ⟨rfl, rfl, rfl, rfl, rfl, _⟩ := z
   have h64 : A * C ≤ 64 := Nat.mul_le_mul hA8 hC8
   have hok2 := formOk_turn hA hH hok
   obtain ⟨r, _, u2, u3⟩ := turnForm_two c d F' B' (TH A (A * C) H) (by rw [TH_length]; omega)
   rcases u3 with ⟨_, z⟩ | ⟨_, A2, C2, _, _, _, ha2, hb2, hF2, _, _, z⟩
   ·exact (z hok2).elim
   ·obtain rfl : A = A2 := by omega
    have e2 : A * C2 = A * C := by rw [← hF2, hB]
    rw [e2, TH_twice hA hH] at z
    subst z
    obtain ⟨v, _, v2, v3⟩ := isForm_two c d F' B' (TH A (A * C) H) (by rw [TH_length]; omega)
    rw [v3.2 hok2] at v2
    refine Ev.step (fun k => by rw [laws_FnPagePlaces.j0, if_neg (by simp), if_pos he]) ?_
    exact Ev.bind u2 (Ev_ite_t rfl (Ev.bind (likeForms_ev c d B' F' H (by omega) (by omega) (by omega)) (Ev_ite_t rfl (Ev.bind v2 (Ev_ite_t rfl hj1)))))
 ·exact Ev.step (fun k => by rw [laws_FnPagePlaces.j0, if_neg (by simp), if_neg he]) hj1

end Go.Proofs.Ytkpidjmhdagkfaa.Pure
-- halved
