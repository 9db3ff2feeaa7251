/- The pure statement of FnExactReadForm: for every input that the row lets in, the law's Lean function answers true; no further condition. -/
import Derived.Test.YtkpidjmhdagkfaaGreatDoorQFnExactReadFormx14
set_option linter.unusedVariables false
set_option linter.unusedSimpArgs false
namespace Go.Proofs.YtkpidjmhdagkfaaGreatDoor.Pure
open Go.RowKit Go.Proofs.YtkpidjmhdagkfaaGreatDoor.QFnExactReadForm Go.Proofs.YtkpidjmhdagkfaaGreatDoorW.PrintWords Go.Proofs.YtkpidjmhdagkfaaGreatDoorW.PrintLast

theorem w64 {x : Int} (h0 : -9223372036854775808 ≤ x) (h1 : x ≤ 9223372036854775807) : wrap64 x = x := by unfold wrap64; omega
theorem rd_get {xs : List Int} {i : Nat} (h : i < xs.length) : rd xs (i : Int) = xs[i] := by
 simp [rd, List.getD_eq_getElem?_getD, h]
theorem rd_nat (xs : List Int) (i : Nat) : rd xs (i : Int) = xs.getD i 0 := by simp [rd]
theorem rd_mem {xs : List Int} {i : Nat} (h : i < xs.length) : rd xs (i : Int) ∈ xs := by rw [rd_get h]; exact List.getElem_mem h
theorem rd_ext {xs ys : List Int} (hl : xs.length = ys.length) (h : ∀ i : Nat, i < xs.length → rd xs (i : Int) = rd ys (i : Int)) : xs = ys := by
 apply List.ext_getElem hl
 intro i h1 h2
 have := h i h1
 rwa [rd_get h1, rd_get h2] at this
theorem rd_set {xs : List Int} {i j : Nat} {v : Int} (hi : i < xs.length) : rd (xs.set i v) (j : Int) = if i = j then v else rd xs (j : Int) := by
 simp only [rd_nat, List.getD_eq_getElem?_getD, List.getElem?_set]
 by_cases h : i = j
 ·subst h; simp [hi]
 ·simp [h]
theorem toNat_cast (i : Nat) : ((i : Nat) : Int).toNat = i := Int.toNat_natCast i
theorem drop_cons {xs : List Int} {i : Nat} (h : i < xs.length) : xs.drop i = rd xs (i : Int) :: xs.drop (i + 1) := by
 rw [rd_get h]; exact List.drop_eq_getElem_cons h
theorem Ev_ite_t {α : Type} {c : Prop} [Decidable c] {f g : Nat → Option α} {r : α} (h : c) (k : Ev f r) : Ev (fun n => if c then f n else g n) r :=
 Ev.congr (fun _ => if_pos h) k
theorem Ev_ite_f {α : Type} {c : Prop} [Decidable c] {f g : Nat → Option α} {r : α} (h : ¬ c) (k : Ev g r) : Ev (fun n => if c then f n else g n) r :=
 Ev.congr (fun _ => if_neg h) k
theorem w64n (i : Nat) (h : i < 9223372036854775807) : wrap64 ((i : Int) + 1) = ((i + 1 : Nat) : Int) := by
 rw [w64 (by omega) (by omega)]; rfl
theorem l01In_eq (n a b : Int) : spec_l01In.f n a b = some (decide (a ≤ n ∧ n ≤ b)) := by
 unfold spec_l01In.f
 by_cases h : n ≥ a
 ·rw [if_pos h]; simp [show a ≤ n from h]
 ·rw [if_neg h]; simp [show ¬ a ≤ n from h]
theorem inRange_eq (n a b : Int) : impl_inRange.f n a b = some (decide (a ≤ n ∧ n ≤ b)) := by
 unfold impl_inRange.f
 by_cases h : a ≤ n
 ·rw [if_pos h]; simp [h]
 ·rw [if_neg h]; simp [h]
theorem within_ev (l : List Int) (m lo hi : Int) (hl : l.length ≤ 35184372088832) (b : Bool) (hb : b = true ↔ (l.length : Int) ≤ m ∧ ∀ x ∈ l, lo ≤ x ∧ x ≤ hi) : Ev (fun k => spec_l01Within.f k l m lo hi) b := by
 have loop : ∀ (d i : Nat), i + d = l.length → ∀ b : Bool, (b = true ↔ (l.length : Int) ≤ m ∧ ∀ x ∈ l.drop i, lo ≤ x ∧ x ≤ hi) → Ev (fun k => spec_l01Within.l0 k l m lo hi (i : Int)) b := by
  intro d
  induction d with
  | zero =>
   intro i hi' b hb
   have e : b = decide ((l.length : Int) ≤ m) := by
    rw [Bool.eq_iff_iff, hb, decide_eq_true_iff, show l.drop i = [] from List.drop_of_length_le (by omega)]
    exact ⟨fun h => h.1, fun h => ⟨h, fun x hx => by simp at hx⟩⟩
   rw [e]
   exact Ev.step (f := fun _ => some (decide ((l.length : Int) ≤ m))) (fun k => by rw [spec_l01Within.l0, if_neg (by omega)]) (Ev.now _)
  | succ d ih =>
   intro i hi' b hb
   refine Ev.step (f := fun k => if decide (lo ≤ rd l (i : Int) ∧ rd l (i : Int) ≤ hi) = true then spec_l01Within.l0 k l m lo hi ((i + 1 : Nat) : Int) else some false) (fun k => by rw [spec_l01Within.l0, if_pos (by omega), if_pos (by omega), l01In_eq, w64n i (by omega)]; rfl) ?_
   rw [drop_cons (xs := l) (i := i) (by omega)] at hb
   simp only [List.mem_cons, forall_eq_or_imp] at hb
   by_cases h : lo ≤ rd l (i : Int) ∧ rd l (i : Int) ≤ hi
   ·refine Ev_ite_t (decide_eq_true h) (ih (i + 1) (by omega) b ?_)
    rw [hb]
    exact ⟨fun x => ⟨x.1, x.2.2⟩, fun x => ⟨x.1, h, x.2⟩⟩
   ·have e : b = false := by
     rw [Bool.eq_false_iff]; intro hbt
     exact h (hb.1 hbt).2.1
    rw [e]
    exact Ev_ite_f (by rw [decide_eq_true_iff]; exact h) (Ev.now _)
 have := loop l.length 0 (by omega) b (by rw [List.drop_zero]; exact hb)
 exact Ev.congr (fun k => rfl) this
theorem allIn_eq (l : List Int) (lo hi : Int) : impl_allIn.f l lo hi = some (decide (∀ x ∈ l, lo ≤ x ∧ x ≤ hi)) := by
 unfold impl_allIn.f
 congr 1
 rw [Bool.eq_iff_iff, decide_eq_true_iff, Bool.not_eq_true', List.any_eq_false]
 unfold allIn_out
 constructor
 ·intro h x hx; simpa using h x hx
 ·intro h x hx; simpa using h x hx
theorem l01Has_ev (l : List Int) (x : Int) (hl : l.length ≤ 35184372088832) : Ev (fun k => spec_l01Has.f k l x) (decide (x ∈ l)) := by
 have loop : ∀ (d i : Nat), i + d = l.length → Ev (fun k => spec_l01Has.l0 k l x (i : Int)) (decide (x ∈ l.drop i)) := by
  intro d
  induction d with
  | zero =>
   intro i hi
   have e : decide (x ∈ l.drop i) = false := by rw [List.drop_of_length_le (by omega)]; simp
   rw [e]
   exact Ev.step (f := fun _ => some false) (fun k => by rw [spec_l01Has.l0, if_neg (by omega)]) (Ev.now _)
  | succ d ih =>
   intro i hi
   by_cases e : rd l (i : Int) = x
   ·have e1 : decide (x ∈ l.drop i) = true := by rw [drop_cons (by omega)]; simp [e]
    rw [e1]
    exact Ev.step (f := fun _ => some true) (fun k => by rw [spec_l01Has.l0, if_pos (by omega), if_pos (by omega), if_pos e]) (Ev.now _)
   ·have e1 : decide (x ∈ l.drop i) = decide (x ∈ l.drop (i + 1)) := by rw [drop_cons (by omega)]; simp [Ne.symm e]
    rw [e1]
    exact Ev.step (fun k => by rw [spec_l01Has.l0, if_pos (by omega), if_pos (by omega), if_neg e, w64n i (by omega)]) (ih (i + 1) (by omega))
 have := loop l.length 0 (by omega)
 rw [List.drop_zero] at this
 exact Ev.congr (fun k => rfl) this
theorem side0 (a : Int) : (∃ j : Nat, j ≤ 3 ∧ a = ((2 ^ j : Nat) : Int) ∧ spec_l04Power.f a = some ((j : Int), true) ∧ impl_isSide.f a = some true) ∨ (spec_l04Power.f a = some (0, false) ∧ impl_isSide.f a = some false) := by
 by_cases h1 : a = 1
 ·subst h1; exact .inl ⟨0, by decide, by decide, by decide +kernel, by decide +kernel⟩
 by_cases h2 : a = 2
 ·subst h2; exact .inl ⟨1, by decide, by decide, by decide +kernel, by decide +kernel⟩
 by_cases h4 : a = 4
 ·subst h4; exact .inl ⟨2, by decide, by decide, by decide +kernel, by decide +kernel⟩
 by_cases h8 : a = 8
 ·subst h8; exact .inl ⟨3, by decide, by decide, by decide +kernel, by decide +kernel⟩
 ·refine .inr ⟨?_, ?_⟩
  ·unfold spec_l04Power.f
   rw [if_neg h1, if_neg h2, if_neg h4, if_neg h8]
  ·unfold impl_isSide.f
   rw [if_neg h1, if_neg h2, if_neg h4, show (a == 8) = false from beq_false_of_ne h8]
theorem sheet0 (a b : Int) : (∃ i j : Nat, i ≤ 3 ∧ j ≤ 3 ∧ a = ((2 ^ i : Nat) : Int) ∧ b = ((2 ^ j : Nat) : Int) ∧ spec_l04Sheet.f a b = some true ∧ impl_isSheet.f a b = some true) ∨ (spec_l04Sheet.f a b = some false ∧ impl_isSheet.f a b = some false) := by
 unfold spec_l04Sheet.f impl_isSheet.f
 rcases side0 a with ⟨i, i1, i2, i3, i4⟩ | ⟨i3, i4⟩
 ·rcases side0 b with ⟨j, j1, j2, j3, j4⟩ | ⟨j3, j4⟩
  ·exact .inl ⟨i, j, i1, j1, i2, j2, by rw [i3, j3]; rfl, by rw [i4, j4]; rfl⟩
  ·exact .inr ⟨by rw [i3, j3]; rfl, by rw [i4, j4]; rfl⟩
 ·refine .inr ⟨?_, by rw [i4]; rfl⟩
  rw [i3]
  rcases side0 b with ⟨j, j1, j2, j3, j4⟩ | ⟨j3, j4⟩
  ·rw [j3]; rfl
  ·rw [j3]; rfl
theorem sheet0_ok {i j : Nat} (hi : i ≤ 3) (hj : j ≤ 3) : impl_isSheet.f ((2 ^ i : Nat) : Int) ((2 ^ j : Nat) : Int) = some true := by
 have h : ∀ i j : Fin 4, impl_isSheet.f ((2 ^ i.val : Nat) : Int) ((2 ^ j.val : Nat) : Int) = some true := by decide +kernel
 exact h ⟨i, by omega⟩ ⟨j, by omega⟩
theorem concat2_ev {b c : List Int} (hb : b.length ≤ 1000) (hc : c.length ≤ 1000) : Ev (fun k => slices_Concat_int64_int64.f k [b, c]) (b ++ c) := by
 have r0 : rd_L1 [b, c] 0 = b := rfl
 have r1 : rd_L1 [b, c] 1 = c := rfl
 have l2 : (([b, c] : List (List Int)).length : Int) = 2 := rfl
 have g0 : (0 : Int) < (([b, c] : List (List Int)).length : Int) := by rw [l2]; omega
 have g1 : (1 : Int) < (([b, c] : List (List Int)).length : Int) := by rw [l2]; omega
 have w1 : wrap64 (0 + 1) = 1 := by rw [w64 (by omega) (by omega)]; rfl
 have w2 : wrap64 (1 + 1) = 2 := by rw [w64 (by omega) (by omega)]; rfl
 have s1 : wrap64 (0 + (b.length : Int)) = (b.length : Int) := by rw [w64 (by omega) (by omega)]; omega
 have s2 : wrap64 ((b.length : Int) + (c.length : Int)) = ((b.length + c.length : Nat) : Int) := by rw [w64 (by omega) (by omega)]; omega
 have hg : slices_Grow_int64_int64.f ([] : List Int) ((b.length + c.length : Nat) : Int) = some [] := by
  unfold slices_Grow_int64_int64.f
  rw [if_pos rfl, if_pos (by omega), if_pos (by omega)]
 have a1 : ([] : List Int).length + b.length < 17592186044416 := by rw [List.length_nil]; omega
 have a2 : b.length + c.length < 17592186044416 := by omega
 generalize ([b, c] : List (List Int)) = G at r0 r1 l2 g0 g1
 refine Ev.step (f := fun k => slices_Concat_int64_int64.l0 k G (b.length : Int) G 2 1) (fun k => ?_) ?_
 ·show slices_Concat_int64_int64.l0 (k + 1) G 0 G (G.length : Int) 0 = _
  rw [l2, slices_Concat_int64_int64.l0, r0, s1, w1, if_pos (by decide), if_pos (by decide), if_pos g0, if_neg (by omega)]
 refine Ev.step (f := fun k => slices_Concat_int64_int64.l0 k G ((b.length + c.length : Nat) : Int) G 2 2) (fun k => ?_) ?_
 ·rw [slices_Concat_int64_int64.l0, r1, s2, w2, if_pos (by decide), if_pos (by decide), if_pos g1, if_neg (by omega)]
 refine Ev.step (f := fun k => slices_Concat_int64_int64.l1 k [] G 2 0) (fun k => ?_) ?_
 ·rw [slices_Concat_int64_int64.l0, if_neg (by decide), hg, l2]; rfl
 refine Ev.step (f := fun k => slices_Concat_int64_int64.l1 k b G 2 1) (fun k => ?_) ?_
 ·rw [slices_Concat_int64_int64.l1, r0, w1, if_pos (by decide), if_pos (by decide), if_pos g0, if_pos a1, List.nil_append]
 refine Ev.step (f := fun k => slices_Concat_int64_int64.l1 k (b ++ c) G 2 2) (fun k => ?_) ?_
 ·rw [slices_Concat_int64_int64.l1, r1, w2, if_pos (by decide), if_pos (by decide), if_pos g1, if_pos a2]
 exact Ev.step (f := fun _ => some (b ++ c)) (fun k => by rw [slices_Concat_int64_int64.l1, if_neg (by decide)]) (Ev.now _)
/-- The pages of a form: they are m numbers that follow one another from first on. -/
def Run (all : List Int) (first : Int) : Prop := (∀ x ∈ all, first ≤ x ∧ x ≤ first + (all.length : Int) - 1) ∧ all.Nodup
theorem sortedAll (l : List Int) : (l.mergeSort (fun x y => decide (x ≤ y))).Pairwise (fun x y => x ≤ y) := by
 have h := List.pairwise_mergeSort (le := fun x y : Int => decide (x ≤ y)) (fun a b c h1 h2 => by simp only [decide_eq_true_iff] at *; omega) (fun a b => by simp only [Bool.or_eq_true, decide_eq_true_iff]; omega) l
 exact h.imp (fun h => by simpa using h)
theorem run_sorted {all s : List Int} {first : Int} (hp : s.Perm all) (hs : s.Pairwise (fun x y => x ≤ y)) (h : Run all first) : ∀ i (hi : i < s.length), s[i] = first + (i : Int) := by
 have hn : s.Nodup := hp.nodup_iff.2 h.2
 have hl : s.length = all.length := hp.length_eq
 have hb : ∀ x ∈ s, first ≤ x ∧ x ≤ first + (s.length : Int) - 1 := fun x hx => by rw [hl]; exact h.1 x (hp.mem_iff.1 hx)
 have hlt : s.Pairwise (fun x y => x < y) := by
  have := hs.and hn
  exact this.imp (fun ⟨a, b⟩ => by omega)
 have step : ∀ i (hi : i + 1 < s.length), s[i] + 1 ≤ s[i + 1] := fun i hi => by
  have := List.pairwise_iff_getElem.1 hlt i (i + 1) (by omega) hi (by omega)
  omega
 have low : ∀ i (hi : i < s.length), first + (i : Int) ≤ s[i] := by
  intro i
  induction i with
  | zero => intro hi; have := (hb _ (List.getElem_mem hi)).1; omega
  | succ i ih => intro hi; have := ih (by omega); have := step i hi; omega
 have up : ∀ d i (hi : i < s.length), i + d + 1 = s.length → s[i] ≤ first + (i : Int) := by
  intro d
  induction d with
  | zero => intro i hi he; have := (hb _ (List.getElem_mem hi)).2; omega
  | succ d ih => intro i hi he; have := ih (i + 1) (by omega) (by omega); have := step i (by omega); omega
 intro i hi
 have h1 := low i hi
 have h2 := up (s.length - 1 - i) i hi (by omega)
 omega
theorem sorted_run {all s : List Int} {first : Int} (hp : s.Perm all) (h : ∀ i (hi : i < s.length), s[i] = first + (i : Int)) : Run all first := by
 have hl : s.length = all.length := hp.length_eq
 refine ⟨fun x hx => ?_, ?_⟩
 ·obtain ⟨i, hi, e⟩ := List.getElem_of_mem (hp.mem_iff.2 hx)
  have := h i hi
  omega
 ·refine hp.nodup_iff.1 ?_
  rw [List.nodup_iff_pairwise_ne]
  refine List.pairwise_iff_getElem.2 (fun i j hi hj hij => ?_)
  rw [h i hi, h j hj]
  omega
theorem mn_le (a b : Int) : mn a b ≤ a ∧ mn a b ≤ b ∧ (mn a b = a ∨ mn a b = b) := by unfold mn; split <;> omega
theorem least_ev (a b : Int) (F B H : List Int) (hl : F.length = B.length) (h0 : 0 < F.length) (h1 : F.length ≤ 1000) : ∃ m, Ev (fun k => spec_l05Least.f k a b F B H) m ∧ m ∈ F ++ B ∧ ∀ x ∈ F ++ B, m ≤ x := by
 have loop : ∀ (d i : Nat), i + d = F.length → ∀ m : Int, m ∈ F ++ B → (∀ j (hj : j < F.length), j < i → m ≤ F[j] ∧ m ≤ B[j]) → ∃ r, Ev (fun k => spec_l05Least.l0 k m (i : Int) a b F B H) r ∧ r ∈ F ++ B ∧ ∀ j (hj : j < F.length), r ≤ F[j] ∧ r ≤ B[j] := by
  intro d
  induction d with
  | zero =>
   intro i hi m hm hj
   exact ⟨m, Ev.step (f := fun _ => some m) (fun k => by rw [spec_l05Least.l0, if_neg (by omega)]) (Ev.now _), hm, fun j hj' => hj j hj' (by omega)⟩
  | succ d ih =>
   intro i hi m hm hj
   have hF : i < F.length := by omega
   have hB : i < B.length := by omega
   obtain ⟨p1, p2, p3⟩ := mn_le F[i] B[i]
   obtain ⟨q1, q2, q3⟩ := mn_le m (mn F[i] B[i])
   obtain ⟨r, r1, r2, r3⟩ := ih (i + 1) (by omega) (mn m (mn F[i] B[i])) (by
    rcases q3 with e | e
    ·rw [e]; exact hm
    ·rw [e]
     rcases p3 with e | e
     ·rw [e]; exact List.mem_append.2 (.inl (List.getElem_mem hF))
     ·rw [e]; exact List.mem_append.2 (.inr (List.getElem_mem hB))) (fun j hj' hji => by
    by_cases e : j = i
    ·subst e; omega
    ·have := hj j hj' (by omega); omega)
   refine ⟨r, Ev.step (fun k => ?_) r1, r2, r3⟩
   rw [spec_l05Least.l0, if_pos (by omega), if_pos (by omega), if_pos (by omega), rd_get hF, rd_get hB, w64n i (by omega)]
 have e0 : rd F (0 : Int) = F[0] := rd_get (i := 0) h0
 obtain ⟨r, r1, r2, r3⟩ := loop F.length 0 (by omega) F[0] (List.mem_append.2 (.inl (List.getElem_mem h0))) (fun j _ hj => by omega)
 refine ⟨r, ?_, r2, fun x hx => ?_⟩
 ·unfold spec_l05Least.f
  refine Ev_ite_t (by omega) ?_
  rw [e0]
  exact r1
 ·rcases List.mem_append.1 hx with hx | hx
  ·obtain ⟨j, hj, e⟩ := List.getElem_of_mem hx
   have := (r3 j hj).1
   omega
  ·obtain ⟨j, hj, e⟩ := List.getElem_of_mem hx
   have := (r3 j (by omega)).2
   omega
theorem specForm_loop (n : Int) (all : List Int) (first : Int) (hl : all.length ≤ 1000) : ∀ (d i : Nat), i + d = all.length → ∃ v : Bool, Ev (fun k => spec_IsForm.l0 k n all first (i : Int)) v ∧ (v = true ↔ (∀ j (hj : j < all.length), i ≤ j → first ≤ all[j] ∧ all[j] ≤ wrap64 (wrap64 (first + wrap64 (2 * n)) - 1) ∧ all[j] ∉ all.take j) ∧ 1 ≤ first ∧ first ≤ 1000000000) := by
 intro d
 induction d with
 | zero =>
  intro i hi
  refine ⟨decide (1 ≤ first ∧ first ≤ 1000000000), ?_, ?_⟩
  ·by_cases h1 : first ≥ 1
   ·refine Ev.step (f := fun _ => some (decide (first ≤ 1000000000))) (fun k => by rw [spec_IsForm.l0, if_neg (by omega), if_pos h1]) ?_
    rw [show decide (1 ≤ first ∧ first ≤ 1000000000) = decide (first ≤ 1000000000) by simp only [decide_eq_decide]; omega]
    exact Ev.now _
   ·refine Ev.step (f := fun _ => some false) (fun k => by rw [spec_IsForm.l0, if_neg (by omega), if_neg h1]) ?_
    rw [decide_eq_false (by omega)]
    exact Ev.now _
  ·rw [decide_eq_true_iff]
   exact ⟨fun h => ⟨fun j hj hij => by omega, h⟩, fun h => h.2⟩
 | succ d ih =>
  intro i hi
  have hil : i < all.length := by omega
  obtain ⟨v, v1, v2⟩ := ih (i + 1) (by omega)
  have hh := l01Has_ev (all.take i) all[i] (by rw [List.length_take]; omega)
  by_cases c1 : first ≤ all[i] ∧ all[i] ≤ wrap64 (wrap64 (first + wrap64 (2 * n)) - 1)
  ·by_cases c2 : all[i] ∈ all.take i
   ·refine ⟨false, ?_, ?_⟩
    ·refine Ev.step (fun k => by rw [spec_IsForm.l0, if_pos (by omega), if_pos (by omega), rd_get hil, l01In_eq]) ?_
     refine Ev.bind (Ev.now _) (Ev_ite_t (decide_eq_true c1) (Ev_ite_t (by omega) ?_))
     rw [Int.toNat_natCast]
     exact Ev.bind hh (Ev_ite_t (decide_eq_true c2) (Ev.now _))
    ·exact ⟨(fun z => by cases z), fun h => ((h.1 i hil (Nat.le_refl _)).2.2 c2).elim⟩
   ·refine ⟨v, ?_, ?_⟩
    ·refine Ev.step (fun k => by rw [spec_IsForm.l0, if_pos (by omega), if_pos (by omega), rd_get hil, l01In_eq]) ?_
     refine Ev.bind (Ev.now _) (Ev_ite_t (decide_eq_true c1) (Ev_ite_t (by omega) ?_))
     rw [Int.toNat_natCast]
     refine Ev.bind hh (Ev_ite_f (by simpa using c2) ?_)
     rw [w64n i (by omega)]
     exact v1
    ·rw [v2]
     constructor
     ·rintro ⟨g, h⟩
      refine ⟨fun j hj hij => ?_, h⟩
      by_cases e : j = i
      ·subst e; exact ⟨c1.1, c1.2, c2⟩
      ·exact g j hj (by omega)
     ·rintro ⟨g, h⟩
      exact ⟨fun j hj hij => g j hj (by omega), h⟩
  ·refine ⟨false, ?_, ?_⟩
   ·refine Ev.step (fun k => by rw [spec_IsForm.l0, if_pos (by omega), if_pos (by omega), rd_get hil, l01In_eq]) ?_
    exact Ev.bind (Ev.now _) (Ev_ite_f (by simpa using c1) (Ev.now _))
   ·exact ⟨(fun z => by cases z), fun h => (c1 ⟨(h.1 i hil (Nat.le_refl _)).1, (h.1 i hil (Nat.le_refl _)).2.1⟩).elim⟩
theorem implForm_loop (s : List Int) (hl : s.length ≤ 1000) (h0 : 0 < s.length) : ∀ (d i : Nat), i + d = s.length → ∃ v : Bool, Ev (fun k => impl_IsForm.l0 k s s (s.length : Int) (i : Int)) v ∧ (v = true ↔ ∀ j (hj : j < s.length), i ≤ j → (1 ≤ s[0] ∧ s[0] ≤ 1000000000) ∧ s[j] = wrap64 (s[0] + (j : Int))) := by
 intro d
 have e0 : rd s (0 : Int) = s[0] := rd_get (i := 0) h0
 induction d with
 | zero =>
  intro i hi
  exact ⟨true, Ev.step (f := fun _ => some true) (fun k => by rw [impl_IsForm.l0, if_neg (by omega)]) (Ev.now _), fun _ j hj hij => by omega, fun _ => rfl⟩
 | succ d ih =>
  intro i hi
  have hil : i < s.length := by omega
  obtain ⟨v, v1, v2⟩ := ih (i + 1) (by omega)
  by_cases c1 : 1 ≤ s[0] ∧ s[0] ≤ 1000000000
  ·by_cases c2 : s[i] = wrap64 (s[0] + (i : Int))
   ·refine ⟨v, ?_, ?_⟩
    ·refine Ev.step (fun k => by rw [impl_IsForm.l0, if_pos (by omega), if_pos (by omega), if_pos (by omega), if_pos (by omega), e0, inRange_eq, rd_get hil]) ?_
     refine Ev.bind (Ev.now _) (Ev_ite_t (decide_eq_true c1) (Ev_ite_t c2 ?_))
     rw [w64n i (by omega)]
     exact v1
    ·rw [v2]
     constructor
     ·intro g j hj hij
      by_cases e : j = i
      ·subst e; exact ⟨c1, c2⟩
      ·exact g j hj (by omega)
     ·intro g j hj hij
      exact g j hj (by omega)
   ·refine ⟨false, ?_, ?_⟩
    ·refine Ev.step (fun k => by rw [impl_IsForm.l0, if_pos (by omega), if_pos (by omega), if_pos (by omega), if_pos (by omega), e0, inRange_eq, rd_get hil]) ?_
     exact Ev.bind (Ev.now _) (Ev_ite_t (decide_eq_true c1) (Ev_ite_f c2 (Ev.now _)))
    ·exact ⟨(fun z => by cases z), fun g => (c2 (g i hil (Nat.le_refl _)).2).elim⟩
  ·refine ⟨false, ?_, ?_⟩
   ·refine Ev.step (fun k => by rw [impl_IsForm.l0, if_pos (by omega), if_pos (by omega), if_pos (by omega), if_pos (by omega), e0, inRange_eq, rd_get hil]) ?_
    exact Ev.bind (Ev.now _) (Ev_ite_f (by simpa using c1) (Ev.now _))
   ·exact ⟨(fun z => by cases z), fun g => (c1 (g i hil (Nat.le_refl _)).1).elim⟩
def FormOk (a b : Int) (F B H : List Int) : Prop := ∃ i j : Nat, i ≤ 3 ∧ j ≤ 3 ∧ a = ((2 ^ i : Nat) : Int) ∧ b = ((2 ^ j : Nat) : Int) ∧ F.length = 2 ^ (i + j) ∧ B.length = 2 ^ (i + j) ∧ H.length = 2 ^ (i + j) ∧ (∀ x ∈ H, 0 ≤ x ∧ x ≤ 1) ∧ ∃ first, 1 ≤ first ∧ first ≤ 1000000000 ∧ first ∈ F ++ B ∧ Run (F ++ B) first
theorem p2inj0 {i j : Nat} (h : ((2 ^ i : Nat) : Int) = ((2 ^ j : Nat) : Int)) : i = j := (Nat.pow_right_inj (by omega : 1 < 2)).1 (Int.ofNat.inj h)
theorem nodup_take (l : List Int) : l.Nodup ↔ ∀ j (hj : j < l.length), l[j] ∉ l.take j := by
 rw [List.nodup_iff_pairwise_ne, List.pairwise_iff_getElem]
 constructor
 ·intro h j hj hm
  obtain ⟨i, hi, e⟩ := List.getElem_of_mem hm
  rw [List.length_take] at hi
  rw [List.getElem_take] at e
  exact h i j (by omega) hj (by omega) e
 ·intro h i j hi hj hij e
  refine h j hj ?_
  rw [← e]
  have : (l.take j)[i]'(by rw [List.length_take]; omega) = l[i] := List.getElem_take
  rw [← this]
  exact List.getElem_mem _
theorem pages_two (F B : List Int) (a b : Int) (H : List Int) (n : Nat) (hF : F.length = n) (hB : B.length = n) (h0 : 0 < n) (h1 : n ≤ 64) : ∃ v : Bool, Ev (fun k => spec_IsForm.j0 k (n : Int) false a b F B H) v ∧ Ev (fun k => impl_IsForm.j0 k false a b F B H) v ∧ (v = true ↔ ∃ first, 1 ≤ first ∧ first ≤ 1000000000 ∧ first ∈ F ++ B ∧ Run (F ++ B) first) := by
 have hlen : (F ++ B).length = 2 * n := by rw [List.length_append]; omega
 obtain ⟨m, m1, m2, m3⟩ := least_ev a b F B H (by omega) (by omega) (by omega)
 obtain ⟨v, v1, v2⟩ := specForm_loop (n : Int) (F ++ B) m (by omega) (F ++ B).length 0 (by omega)
 have hp : ((F ++ B).mergeSort (fun x y => decide (x ≤ y))).Perm (F ++ B) := List.mergeSort_perm _ _
 have hs := sortedAll (F ++ B)
 have hsl : ((F ++ B).mergeSort (fun x y => decide (x ≤ y))).length = 2 * n := by rw [hp.length_eq, hlen]
 obtain ⟨s, hse⟩ : ∃ s, (F ++ B).mergeSort (fun x y => decide (x ≤ y)) = s := ⟨_, rfl⟩
 rw [hse] at hp hs hsl
 obtain ⟨u, u1, u2⟩ := implForm_loop s (by omega) (by omega) s.length 0 (by omega)
 have hs0 : s[0]'(by omega) = m := by
  have g1 := m3 _ (hp.mem_iff.1 (List.getElem_mem (l := s) (n := 0) (by omega)))
  obtain ⟨q, hq, e⟩ := List.getElem_of_mem (hp.mem_iff.2 m2)
  have g2 : s[0]'(by omega) ≤ s[q] := by
   rcases Nat.eq_zero_or_pos q with z | z
   ·subst z; omega
   ·exact List.pairwise_iff_getElem.1 hs 0 q (by omega) hq z
  omega
 have main : (1 ≤ m ∧ m ≤ 1000000000 ∧ Run (F ++ B) m) ↔ ∃ first, 1 ≤ first ∧ first ≤ 1000000000 ∧ first ∈ F ++ B ∧ Run (F ++ B) first := by
  constructor
  ·rintro ⟨x, y, z⟩; exact ⟨m, x, y, m2, z⟩
  ·rintro ⟨f, x, y, z, r⟩
   have g1 := m3 f z
   have g2 := (r.1 m m2).1
   obtain rfl : f = m := by omega
   exact ⟨x, y, r⟩
 have hv : v = true ↔ (1 ≤ m ∧ m ≤ 1000000000 ∧ Run (F ++ B) m) := by
  rw [v2]
  have hw : 1 ≤ m → m ≤ 1000000000 → wrap64 (wrap64 (m + wrap64 (2 * (n : Int))) - 1) = m + (((F ++ B).length : Nat) : Int) - 1 := fun g1 g2 => by
   rw [w64 (x := 2 * (n : Int)) (by omega) (by omega), w64 (x := m + 2 * (n : Int)) (by omega) (by omega), w64 (by omega) (by omega), hlen]
   omega
  constructor
  ·rintro ⟨g, g1, g2⟩
   rw [hw g1 g2] at g
   refine ⟨g1, g2, fun x hx => ?_, (nodup_take _).2 (fun j hj => (g j hj (Nat.zero_le _)).2.2)⟩
   obtain ⟨j, hj, e⟩ := List.getElem_of_mem hx
   have := g j hj (Nat.zero_le _)
   exact ⟨by omega, by omega⟩
  ·rintro ⟨g1, g2, g3, g4⟩
   rw [hw g1 g2]
   exact ⟨fun j hj _ => ⟨(g3 _ (List.getElem_mem hj)).1, (g3 _ (List.getElem_mem hj)).2, (nodup_take _).1 g4 j hj⟩, g1, g2⟩
 have hu : u = true ↔ (1 ≤ m ∧ m ≤ 1000000000 ∧ Run (F ++ B) m) := by
  rw [u2]
  constructor
  ·intro g
   have g0 := (g 0 (by omega) (Nat.le_refl _)).1
   rw [hs0] at g0
   refine ⟨g0.1, g0.2, sorted_run hp (fun j hj => ?_)⟩
   have := (g j hj (Nat.zero_le _)).2
   rw [hs0, w64 (by omega) (by omega)] at this
   exact this
  ·rintro ⟨g1, g2, g3⟩ j hj _
   rw [hs0]
   exact ⟨⟨g1, g2⟩, by rw [run_sorted hp hs g3 j hj, w64 (by omega) (by omega)]⟩
 have huv : u = v := Bool.eq_iff_iff.2 (hu.trans hv.symm)
 subst huv
 refine ⟨u, ?_, ?_, hv.trans main⟩
 ·have ho : spec_l01Own.f F = some F := by
   unfold spec_l01Own.f
   simp only [Option.bind_some, List.length_nil, List.nil_append]
   rw [if_pos (by omega)]
  refine Ev.step (fun k => by rw [spec_IsForm.j0, if_neg (by simp), ho]) ?_
  exact Ev.bind (Ev.now _) (Ev_ite_t (by omega) (Ev.bind m1 v1))
 ·have hso : slices_Sorted_int64.f (F ++ B) = some s := by
   unfold slices_Sorted_int64.f
   rw [if_pos (by omega), if_pos (by omega), hse]
  refine Ev.step (fun k => by rw [impl_IsForm.j0, if_neg (by simp)]) ?_
  refine Ev.bind (concat2_ev (by omega) (by omega)) ?_
  rw [hso]
  exact Ev.bind (Ev.now _) u1
theorem isForm_two (a b : Int) (F B H : List Int) (hH : H.length ≤ 1048576) : ∃ v : Bool, Ev (fun k => spec_IsForm.f k a b F B H) v ∧ Ev (fun k => impl_IsForm.f k a b F B H) v ∧ (v = true ↔ FormOk a b F B H) := by
 have len : ∀ l : List Int, impl_length_int64.f l = some (l.length : Int) := fun l => rfl
 unfold spec_IsForm.f impl_IsForm.f
 rcases sheet0 a b with ⟨i, j, i1, j1, ha, hb, s1, s2⟩ | ⟨s1, s2⟩
 ·have h64 : 2 ^ (i + j) ≤ 64 := Nat.le_trans (Nat.pow_le_pow_right (by omega) (show i + j ≤ 6 by omega)) (by decide)
  have hpos : 0 < 2 ^ (i + j) := Nat.pow_pos (by omega)
  have hab : a * b = ((2 ^ (i + j) : Nat) : Int) := by rw [ha, hb, Nat.pow_add]; exact (Int.natCast_mul _ _).symm
  have hok : FormOk a b F B H → F.length = 2 ^ (i + j) ∧ B.length = 2 ^ (i + j) ∧ H.length = 2 ^ (i + j) ∧ (∀ x ∈ H, 0 ≤ x ∧ x ≤ 1) ∧ ∃ first, 1 ≤ first ∧ first ≤ 1000000000 ∧ first ∈ F ++ B ∧ Run (F ++ B) first := by
   rintro ⟨i', j', _, _, ha', hb', h1, h2, h3, h4, h5⟩
   obtain rfl := p2inj0 (ha.symm.trans ha')
   obtain rfl := p2inj0 (hb.symm.trans hb')
   exact ⟨h1, h2, h3, h4, h5⟩
  have hko : F.length = 2 ^ (i + j) → B.length = 2 ^ (i + j) → H.length = 2 ^ (i + j) → (∀ x ∈ H, 0 ≤ x ∧ x ≤ 1) → (∃ first, 1 ≤ first ∧ first ≤ 1000000000 ∧ first ∈ F ++ B ∧ Run (F ++ B) first) → FormOk a b F B H := fun h1 h2 h3 h4 h5 => ⟨i, j, i1, j1, ha, hb, h1, h2, h3, h4, h5⟩
  generalize 2 ^ (i + j) = n at h64 hpos hab hok hko
  have hw : wrap64 (a * b) = (n : Int) := by rw [hab]; exact w64 (by omega) (by omega)
  rw [s1, s2, hw, len, len, len]
  have sb : Ev (fun k => spec_IsForm.j0 k (n : Int) true a b F B H) false := Ev.step (f := fun _ => some false) (fun k => by rw [spec_IsForm.j0, if_pos rfl]) (Ev.now _)
  have ib : Ev (fun k => impl_IsForm.j0 k true a b F B H) false := Ev.step (f := fun _ => some false) (fun k => by rw [impl_IsForm.j0, if_pos rfl]) (Ev.now _)
  by_cases c1 : (F.length : Int) = (n : Int)
  ·by_cases c2 : (B.length : Int) = (n : Int)
   ·by_cases c3 : (H.length : Int) = (n : Int)
    ·have hwi := within_ev H 64 0 1 (by omega) (decide (∀ x ∈ H, 0 ≤ x ∧ x ≤ 1)) (by rw [decide_eq_true_iff]; exact ⟨fun h => ⟨by omega, h⟩, fun h => h.2⟩)
     rw [allIn_eq]
     by_cases c4 : ∀ x ∈ H, 0 ≤ x ∧ x ≤ 1
     ·rw [decide_eq_true c4] at hwi ⊢
      obtain ⟨v, v1, v2, v3⟩ := pages_two F B a b H n (by omega) (by omega) hpos h64
      refine ⟨v, Ev.bind (Ev.now _) (Ev_ite_t rfl (Ev_ite_t c1 (Ev_ite_t c2 (Ev_ite_t c3 (Ev.bind hwi v1))))), Ev.bind (Ev.now _) (Ev_ite_t rfl (Ev.bind (Ev.now _) (Ev_ite_t c1 (Ev.bind (Ev.now _) (Ev_ite_t c2 (Ev.bind (Ev.now _) (Ev_ite_t c3 (Ev.bind (Ev.now _) v2)))))))), ?_⟩
      rw [v3]
      exact ⟨fun h => hko (by omega) (by omega) (by omega) c4 h, fun h => (hok h).2.2.2.2⟩
     ·rw [decide_eq_false c4] at hwi ⊢
      exact ⟨false, Ev.bind (Ev.now _) (Ev_ite_t rfl (Ev_ite_t c1 (Ev_ite_t c2 (Ev_ite_t c3 (Ev.bind hwi sb))))), Ev.bind (Ev.now _) (Ev_ite_t rfl (Ev.bind (Ev.now _) (Ev_ite_t c1 (Ev.bind (Ev.now _) (Ev_ite_t c2 (Ev.bind (Ev.now _) (Ev_ite_t c3 (Ev.bind (Ev.now _) ib)))))))), (fun z => by cases z), fun h => (c4 (hok h).2.2.2.1).elim⟩
    ·exact ⟨false, Ev.bind (Ev.now _) (Ev_ite_t rfl (Ev_ite_t c1 (Ev_ite_t c2 (Ev_ite_f c3 sb)))), Ev.bind (Ev.now _) (Ev_ite_t rfl (Ev.bind (Ev.now _) (Ev_ite_t c1 (Ev.bind (Ev.now _) (Ev_ite_t c2 (Ev.bind (Ev.now _) (Ev_ite_f c3 ib))))))), (fun z => by cases z), fun h => (c3 (by rw [(hok h).2.2.1])).elim⟩
   ·exact ⟨false, Ev.bind (Ev.now _) (Ev_ite_t rfl (Ev_ite_t c1 (Ev_ite_f c2 sb))), Ev.bind (Ev.now _) (Ev_ite_t rfl (Ev.bind (Ev.now _) (Ev_ite_t c1 (Ev.bind (Ev.now _) (Ev_ite_f c2 ib))))), (fun z => by cases z), fun h => (c2 (by rw [(hok h).2.1])).elim⟩
  ·exact ⟨false, Ev.bind (Ev.now _) (Ev_ite_t rfl (Ev_ite_f c1 sb)), Ev.bind (Ev.now _) (Ev_ite_t rfl (Ev.bind (Ev.now _) (Ev_ite_f c1 ib))), (fun z => by cases z), fun h => (c1 (by rw [(hok h).1])).elim⟩
 ·rw [s1, s2]
  have sb : Ev (fun k => spec_IsForm.j0 k (wrap64 (a * b)) true a b F B H) false := Ev.step (f := fun _ => some false) (fun k => by rw [spec_IsForm.j0, if_pos rfl]) (Ev.now _)
  refine ⟨false, Ev.bind (Ev.now _) (Ev_ite_f (by simp) sb), Ev.bind (Ev.now _) (Ev_ite_f (by simp) (Ev.now _)), (fun z => by cases z), ?_⟩
  rintro ⟨i, j, i1, j1, ha, hb, _⟩
  rw [ha, hb, sheet0_ok i1 j1] at s2
  cases s2
abbrev SL := S64
def gridL (H W : Nat) (g : Nat → Nat → List SL) : List (List (List SL)) := (List.range H).map fun y => (List.range W).map (g y)
theorem gridL_len (H W : Nat) (g : Nat → Nat → List SL) : (gridL H W g).length = H := by simp [gridL]
theorem gridL_row {H W : Nat} {g : Nat → Nat → List SL} {y : Nat} (h : y < H) : rd_L5 (gridL H W g) (y : Int) = (List.range W).map (g y) := by
 unfold rd_L5 gridL
 rw [Int.toNat_natCast, List.getD_eq_getElem?_getD, List.getElem?_map, List.getElem?_range h]
 rfl
theorem gridL_getD {H W : Nat} {g : Nat → Nat → List SL} {y : Nat} (h : y < H) : (gridL H W g).getD y [] = (List.range W).map (g y) := gridL_row (W := W) (g := g) h
theorem row_cell {W : Nat} {f : Nat → List SL} {x : Nat} (h : x < W) : rd_L4 ((List.range W).map f) (x : Int) = f x := by
 unfold rd_L4
 rw [Int.toNat_natCast, List.getD_eq_getElem?_getD, List.getElem?_map, List.getElem?_range h]
 rfl
theorem row_getD {W : Nat} {f : Nat → List SL} {x : Nat} (h : x < W) : ((List.range W).map f).getD x [] = f x := row_cell h
theorem row_len (W : Nat) (f : Nat → List SL) : ((List.range W).map f).length = W := by simp
theorem row_snoc {α : Type} (x : Nat) (f : Nat → α) : (List.range x).map f ++ [f x] = (List.range (x + 1)).map f := by rw [List.range_succ, List.map_append]; rfl
def turnL (a : Bool) (l : List SL) : List SL := l.reverse.map (spec_l04Turn.togg a)
theorem turnL_len (a : Bool) (l : List SL) : (turnL a l).length = l.length := by simp [turnL]
theorem specTurn_eq {l : List SL} (a : Bool) (h : l.length ≤ 64) : spec_l04Turn.f l a = some (turnL a l) := by unfold spec_l04Turn.f; rw [if_pos (by omega)]; rfl
def ovr (f : Bool) (h i : Nat) : Nat := if f = true then h - 1 - i else 2 * h - 1 - i
def und (f : Bool) (h i : Nat) : Nat := if f = true then h + i else i
def gAlong (f : Bool) (W : Nat) (g : Nat → Nat → List SL) : Nat → Nat → List SL := fun y x => turnL true (g y (ovr f W x)) ++ g y (und f W x)
def gAcross (f : Bool) (H : Nat) (g : Nat → Nat → List SL) : Nat → Nat → List SL := fun y x => turnL false (g (ovr f H y) x) ++ g (und f H y) x
theorem tdiv2 (h : Nat) (hh : h ≤ 100) : wrap64 (Int.tdiv ((2 * h : Nat) : Int) 2) = (h : Int) := by rw [Int.tdiv_eq_ediv_of_nonneg (by omega), w64 (by omega) (by omega)]; omega
theorem ltc {a b : Nat} (h : a < b) : (a : Int) < (b : Int) := Int.ofNat_lt.2 h
theorem nn (a : Nat) : 0 ≤ (a : Int) := Int.natCast_nonneg a
theorem nltc {a b : Nat} (h : ¬ a < b) : ¬ (a : Int) < (b : Int) := fun z => h (Int.ofNat_lt.1 z)
theorem w2a {W x : Nat} (hW : W ≤ 8) (h : x < W) : wrap64 (wrap64 ((W : Int) - 1) - (x : Int)) = ((W - 1 - x : Nat) : Int) := by rw [w64 (x := (W : Int) - 1) (by omega) (by omega), w64 (by omega) (by omega)]; omega
theorem w2b {W x : Nat} (hW : W ≤ 8) (h : x ≤ W) : wrap64 ((W : Int) + (x : Int)) = ((W + x : Nat) : Int) := by rw [w64 (by omega) (by omega)]; omega
theorem gA_t (W : Nat) (g : Nat → Nat → List SL) (y x : Nat) : gAlong true W g y x = turnL true (g y (W - 1 - x)) ++ g y (W + x) := rfl
theorem gA_f (W : Nat) (g : Nat → Nat → List SL) (y x : Nat) : gAlong false W g y x = turnL true (g y (2 * W - 1 - x)) ++ g y x := rfl
theorem sumb {a b : List SL} (t : Bool) (ha : a.length ≤ 64) (hb : b.length ≤ 64) : (turnL t a).length + b.length < 5864062014805 := by rw [turnL_len]; omega
theorem lenb {α : Type} {l : List α} (h : l.length ≤ 8) : l.length < 5864062014805 := by omega
-- one row, folded along
theorem along_in {H W : Nat} {g : Nat → Nat → List SL} (c : Int) (hW : W ≤ 4) (y : Nat) (hy : y < H) (hg : ∀ x, x < 2 * W → (g y x).length ≤ 64) (a5 : List (List (List SL))) (h5 : a5.length ≤ 8) (r : List (List (List SL)))
  (hr : Ev (fun k => spec_l04Along.l0 k (gridL H (2 * W) g) c (a5 ++ [(List.range W).map (gAlong (c == 76) W g y)]) (wrap64 ((y : Int) + 1))) r) :
  ∀ d x : Nat, x + d = W → Ev (fun k => spec_l04Along.l1 k (gridL H (2 * W) g) c a5 (y : Int) ((2 * W : Nat) : Int) ((List.range x).map (gAlong (c == 76) W g y)) (x : Int)) r := by
 have e1 := Aside0.mk (tdiv2 W (by omega))
 have hG : (y : Int) < ((gridL H (2 * W) g).length : Int) := by rw [gridL_len]; exact ltc hy
 have hR := gridL_row (H := H) (W := 2 * W) (g := g) hy
 have hc0 : ∀ i : Nat, i < 2 * W → rd_L4 ((List.range (2 * W)).map (g y)) (i : Int) = g y i := fun i hi => row_cell hi
 have hlen : ∀ i : Nat, i < 2 * W → (i : Int) < (((List.range (2 * W)).map (g y)).length : Int) := fun i hi => by rw [row_len]; exact ltc hi
 generalize gridL H (2 * W) g = G at hr hG hR ⊢
 generalize (List.range (2 * W)).map (g y) = R at hR hc0 hlen
 intro d
 induction d with
 | zero =>
  intro x hx
  obtain rfl : x = W := by omega
  have hn : ¬ (x : Int) < (x : Int) := Int.lt_irrefl _
  exact Ev.step (fun k => by rw [spec_l04Along.l1, e1.out, if_neg hn, if_pos (lenb h5)]) hr
 | succ d ih =>
  intro x hx
  have ih' := ih (x + 1) (by omega)
  have h8 : ((List.range x).map (gAlong (c == 76) W g y)).length ≤ 8 := by rw [row_len]; omega
  rw [← row_snoc, ← w64n x (by omega)] at ih'
  generalize (List.range x).map (gAlong (c == 76) W g y) = acc at ih' h8 ⊢
  clear ih hr
  have f1 : (x : Int) < (W : Int) := ltc (by omega)
  have f4 := hlen (2 * W - 1 - x) (by omega)
  have f5 := hlen x (by omega)
  have e2 := Aside0.mk (w2a (W := 2 * W) (x := x) (by omega) (by omega))
  by_cases hc : c = 76
  ·rw [show (c == 76) = true by rw [hc]; rfl, gA_t] at ih'
   have f6 := hlen (W - 1 - x) (by omega)
   have f7 := hlen (W + x) (by omega)
   have l1 := hg (W - 1 - x) (by omega)
   have l2 := hg (W + x) (by omega)
   have e3 := Aside0.mk (w2a (W := W) (x := x) (by omega) (by omega))
   have e4 := Aside0.mk (w2b (W := W) (x := x) (by omega) (by omega))
   have c1 := hc0 (W - 1 - x) (by omega)
   have c2 := hc0 (W + x) (by omega)
   refine Ev.step (fun k => ?_) ih'
   rw [spec_l04Along.l1, e1.out, hR, e2.out, e3.out, e4.out, if_pos f1, if_pos (nn y), if_pos hG, if_pos (nn _), if_pos f4, if_pos (nn x), if_pos f5, if_pos hc, if_pos (nn _), if_pos f6, if_pos (nn _), if_pos f7, c1, c2, specTurn_eq true l1, Option.bind_some, if_pos (sumb true l1 l2), if_pos (lenb h8)]
  ·rw [show (c == 76) = false from beq_false_of_ne hc, gA_f] at ih'
   have l1 := hg (2 * W - 1 - x) (by omega)
   have l2 := hg x (by omega)
   have c1 := hc0 (2 * W - 1 - x) (by omega)
   have c2 := hc0 x (by omega)
   refine Ev.step (fun k => ?_) ih'
   rw [spec_l04Along.l1, e1.out, hR, e2.out, if_pos f1, if_pos (nn y), if_pos hG, if_pos (nn _), if_pos f4, if_pos (nn x), if_pos f5, if_neg hc, c1, c2, specTurn_eq true l1, Option.bind_some, if_pos (sumb true l1 l2), if_pos (lenb h8)]
theorem along_ev {H W : Nat} {g : Nat → Nat → List SL} (c : Int) (hH : H ≤ 8) (hW : W ≤ 4) (hg : ∀ y x, y < H → x < 2 * W → (g y x).length ≤ 64) : Ev (fun k => spec_l04Along.f k (gridL H (2 * W) g) c) (gridL H W (gAlong (c == 76) W g)) := by
 have key : ∀ d y : Nat, y + d = H → Ev (fun k => spec_l04Along.l0 k (gridL H (2 * W) g) c ((List.range y).map fun y => (List.range W).map (gAlong (c == 76) W g y)) (y : Int)) (gridL H W (gAlong (c == 76) W g)) := by
  intro d
  induction d with
  | zero =>
   intro y hy
   obtain rfl : y = H := by omega
   have hn : ¬ (y : Int) < ((gridL y (2 * W) g).length : Int) := by rw [gridL_len]; exact Int.lt_irrefl _
   exact Ev.step (f := fun _ => some (gridL y W (gAlong (c == 76) W g))) (fun k => by rw [spec_l04Along.l0, if_neg hn]; rfl) (Ev.now _)
  | succ d ih =>
   intro y hy
   have ih' := ih (y + 1) (by omega)
   rw [← row_snoc, ← w64n y (by omega)] at ih'
   have h := along_in c hW y (show y < H by omega) (fun x hx => hg y x (by omega) hx) _ (by rw [List.length_map, List.length_range]; omega) _ ih' W 0 (by omega)
   have hG : (y : Int) < ((gridL H (2 * W) g).length : Int) := by rw [gridL_len]; exact ltc (by omega)
   have hR : ((rd_L5 (gridL H (2 * W) g) (y : Int)).length : Int) = ((2 * W : Nat) : Int) := by rw [gridL_row (by omega), row_len]
   refine Ev.step (fun k => ?_) h
   rw [spec_l04Along.l0, if_pos hG, if_pos (nn y), hR]
   rfl
 exact key H 0 (by omega)
-- folded across
theorem across_in {G : List (List (List SL))} {W : Nat} (c : Int) (hW : W ≤ 8) (fo fu : Nat → List SL) (hg : ∀ x, x < W → (fo x).length ≤ 64 ∧ (fu x).length ≤ 64) (a6 : List (List (List SL))) (h6 : a6.length ≤ 8) (y : Nat) (n : Int) (r : List (List (List SL)))
  (hr : Ev (fun k => spec_l04Across.l0 k G c n (a6 ++ [(List.range W).map fun x => turnL false (fo x) ++ fu x]) (wrap64 ((y : Int) + 1))) r) :
  ∀ d x : Nat, x + d = W → Ev (fun k => spec_l04Across.l1 k G c n a6 (y : Int) ((List.range W).map fo) ((List.range W).map fu) ((List.range x).map fun x => turnL false (fo x) ++ fu x) (x : Int)) r ∧ Ev (fun k => spec_l04Across.l101 k G c n a6 (y : Int) ((List.range W).map fo) ((List.range W).map fu) ((List.range x).map fun x => turnL false (fo x) ++ fu x) (x : Int)) r := by
 have hO : ∀ i : Nat, i < W → (i : Int) < (((List.range W).map fo).length : Int) := fun i hi => by rw [row_len]; exact ltc hi
 have hU : ∀ i : Nat, i < W → (i : Int) < (((List.range W).map fu).length : Int) := fun i hi => by rw [row_len]; exact ltc hi
 have hN : ¬ (W : Int) < (((List.range W).map fo).length : Int) := by rw [row_len]; exact Int.lt_irrefl _
 have cO : ∀ i : Nat, i < W → rd_L4 ((List.range W).map fo) (i : Int) = fo i := fun i hi => row_cell hi
 have cU : ∀ i : Nat, i < W → rd_L4 ((List.range W).map fu) (i : Int) = fu i := fun i hi => row_cell hi
 generalize (List.range W).map fo = RO at hO hN cO ⊢
 generalize (List.range W).map fu = RU at hU cU ⊢
 intro d
 induction d with
 | zero =>
  intro x hx
  obtain rfl : x = W := by omega
  exact ⟨Ev.step (fun k => by rw [spec_l04Across.l1, if_neg hN, if_pos (lenb h6)]) hr, Ev.step (fun k => by rw [spec_l04Across.l101, if_neg hN, if_pos (lenb h6)]) hr⟩
 | succ d ih =>
  intro x hx
  obtain ⟨i1, i2⟩ := ih (x + 1) (by omega)
  have h10 : ((List.range x).map fun x => turnL false (fo x) ++ fu x).length ≤ 8 := by rw [List.length_map, List.length_range]; omega
  rw [← row_snoc, ← w64n x (by omega)] at i1 i2
  obtain ⟨l1, l2⟩ := hg x (by omega)
  have f1 := hO x (by omega)
  have f2 := hU x (by omega)
  have c1 := cO x (by omega)
  have c2 := cU x (by omega)
  generalize ((List.range x).map fun x => turnL false (fo x) ++ fu x) = acc at i1 i2 h10 ⊢
  clear ih hr
  constructor
  ·refine Ev.step (fun k => ?_) i1
   rw [spec_l04Across.l1, if_pos f1, if_pos (nn x), c1, c2, specTurn_eq false l1, Option.bind_some, if_pos f2, if_pos (sumb false l1 l2), if_pos (lenb h10)]
  ·refine Ev.step (fun k => ?_) i2
   rw [spec_l04Across.l101, if_pos f1, if_pos (nn x), c1, c2, specTurn_eq false l1, Option.bind_some, if_pos f2, if_pos (sumb false l1 l2), if_pos (lenb h10)]
theorem across_ev {H W : Nat} {g : Nat → Nat → List SL} (c : Int) (hH : H ≤ 4) (hW : W ≤ 8) (hg : ∀ y x, y < 2 * H → x < W → (g y x).length ≤ 64) : Ev (fun k => spec_l04Across.f k (gridL (2 * H) W g) c) (gridL H W (gAcross (c == 84) H g)) := by
 have e1 := Aside0.mk (tdiv2 H (by omega))
 have hlen : ∀ i : Nat, i < 2 * H → (i : Int) < ((gridL (2 * H) W g).length : Int) := fun i hi => by rw [gridL_len]; exact ltc hi
 have hrow : ∀ i : Nat, i < 2 * H → rd_L5 (gridL (2 * H) W g) (i : Int) = (List.range W).map (g i) := fun i hi => gridL_row hi
 have hL : ((gridL (2 * H) W g).length : Int) = ((2 * H : Nat) : Int) := by rw [gridL_len]
 have key : ∀ d y : Nat, y + d = H → Ev (fun k => spec_l04Across.l0 k (gridL (2 * H) W g) c ((2 * H : Nat) : Int) ((List.range y).map fun y => (List.range W).map (gAcross (c == 84) H g y)) (y : Int)) (gridL H W (gAcross (c == 84) H g)) := by
  generalize gridL (2 * H) W g = G at hlen hrow
  intro d
  induction d with
  | zero =>
   intro y hy
   obtain rfl : y = H := by omega
   have hn : ¬ (y : Int) < (y : Int) := Int.lt_irrefl _
   exact Ev.step (f := fun _ => some (gridL y W (gAcross (c == 84) y g))) (fun k => by rw [spec_l04Across.l0, e1.out, if_neg hn]; rfl) (Ev.now _)
  | succ d ih =>
   intro y hy
   have ih' := ih (y + 1) (by omega)
   rw [← row_snoc, ← w64n y (by omega)] at ih'
   have h6 : ((List.range y).map fun y => (List.range W).map (gAcross (c == 84) H g y)).length ≤ 8 := by rw [List.length_map, List.length_range]; omega
   generalize ((List.range y).map fun y => (List.range W).map (gAcross (c == 84) H g y)) = acc at ih' h6 ⊢
   have e2 := Aside0.mk (w2a (W := 2 * H) (x := y) (by omega) (by omega))
   have f1 : (y : Int) < (H : Int) := ltc (by omega)
   have f2 := hlen (2 * H - 1 - y) (by omega)
   have f3 := hlen y (by omega)
   clear ih
   by_cases hc : c = 84
   ·have hcb : (c == 84) = true := by rw [hc]; rfl
    rw [hcb] at ih' ⊢
    have e3 := Aside0.mk (w2a (W := H) (x := y) (by omega) (by omega))
    have e4 := Aside0.mk (w2b (W := H) (x := y) (by omega) (by omega))
    have f4 := hlen (H - 1 - y) (by omega)
    have f5 := hlen (H + y) (by omega)
    have r1 := hrow (H - 1 - y) (by omega)
    have r2 := hrow (H + y) (by omega)
    have h := (across_in (G := G) c hW (g (H - 1 - y)) (g (H + y)) (fun x hx => ⟨hg _ x (by omega) hx, hg _ x (by omega) hx⟩) acc h6 y _ _ ih' W 0 (by omega)).1
    refine Ev.step (fun k => ?_) h
    rw [spec_l04Across.l0, e1.out, e2.out, e3.out, e4.out, if_pos f1, if_pos (nn _), if_pos f2, if_pos (nn y), if_pos f3, if_pos hc, if_pos (nn _), if_pos f4, if_pos (nn _), if_pos f5, r1, r2]
    rfl
   ·have hcb : (c == 84) = false := beq_false_of_ne hc
    rw [hcb] at ih' ⊢
    have r1 := hrow (2 * H - 1 - y) (by omega)
    have r2 := hrow y (by omega)
    have h := (across_in (G := G) c hW (g (2 * H - 1 - y)) (g y) (fun x hx => ⟨hg _ x (by omega) hx, hg _ x (by omega) hx⟩) acc h6 y _ _ ih' W 0 (by omega)).2
    refine Ev.step (fun k => ?_) h
    rw [spec_l04Across.l0, e1.out, e2.out, if_pos f1, if_pos (nn _), if_pos f2, if_pos (nn y), if_pos f3, if_neg hc, r1, r2]
    rfl
 have hk := key H 0 (by omega)
 unfold spec_l04Across.f
 rw [hL]
 exact hk
theorem implFlip_eq {l : List SL} (a : Bool) (h : l.length ≤ 64) : impl_flipped.f l a = some (turnL (!a) l) := by
 unfold impl_flipped.f
 rw [if_pos (by omega)]
 have e : impl_flipped.togg a = spec_l04Turn.togg (!a) := by funext x; cases a <;> rfl
 rw [e]; rfl
theorem bt_list (s : ByteArray) (i : Nat) (h : i < s.size) : bt s (i : Int) = ((s.data.toList[i]'(by simpa using h)).toNat : Int) := by
 unfold bt
 rw [dif_pos (by rw [Int.toNat_natCast]; exact h)]
 simp [ByteArray.getElem_eq_getElem_data]
def lrc (l : List UInt8) : Nat := List.count 76 l + List.count 82 l
theorem lrc_cons (c : UInt8) (t : List UInt8) : lrc (c :: t) = lrc t + (if c = 76 ∨ c = 82 then 1 else 0) := by
 unfold lrc
 rw [List.count_cons, List.count_cons]
 by_cases h1 : c = 76
 ·subst h1; simp; omega
 ·by_cases h2 : c = 82
  ·subst h2; simp; omega
  ·simp [h1, h2]
theorem lrc_le (l : List UInt8) : lrc l ≤ l.length := by
 induction l with
 | nil => decide
 | cons c t ih => rw [lrc_cons, List.length_cons]; split <;> omega
theorem byte_eq (c : UInt8) (n : Nat) (hn : n < 256) : ((c.toNat : Int) = (n : Int)) ↔ c = UInt8.ofNat n := by
 have e : (UInt8.ofNat n).toNat = n := (show (UInt8.ofNat n).toNat = n % 256 from rfl).trans (Nat.mod_eq_of_lt hn)
 constructor
 ·intro h
  apply UInt8.toNat_inj.1
  rw [e]
  omega
 ·rintro rfl
  rw [e]
def gfold : List UInt8 → Nat → Nat → (Nat → Nat → List SL) → List SL
 | [], _, _, g => g 0 0
 | c :: t, H, W, g => if c = 76 ∨ c = 82 then gfold t H (W / 2) (gAlong (c == 76) (W / 2) g) else gfold t (H / 2) W (gAcross (c == 84) (H / 2) g)
def g0 : Nat → Nat → List SL := fun y x => [⟨(x : Int), (y : Int), false, false⟩]
theorem specStart_ev {H W : Nat} (hH : H ≤ 8) (hW : W ≤ 8) : Ev (fun k => spec_l04Start.f k (W : Int) (H : Int)) (gridL H W g0) := by
 have hin : ∀ (y : Nat) (a5 : List (List (List SL))) (r : List (List (List SL))), a5.length ≤ 8 → Ev (fun k => spec_l04Start.l0 k (W : Int) (H : Int) (a5 ++ [(List.range W).map (g0 y)]) (wrap64 ((y : Int) + 1))) r → ∀ d x : Nat, x + d = W → Ev (fun k => spec_l04Start.l1 k (W : Int) (H : Int) a5 (y : Int) ((List.range x).map (g0 y)) (x : Int)) r := by
  intro y a5 r h5 hr d
  induction d with
  | zero =>
   intro x hx
   obtain rfl : x = W := by omega
   have hn : ¬ (x : Int) < (x : Int) := Int.lt_irrefl _
   exact Ev.step (fun k => by rw [spec_l04Start.l1, if_neg hn, if_pos (lenb h5)]) hr
  | succ d ih =>
   intro x hx
   have ih' := ih (x + 1) (by omega)
   have h8 : ((List.range x).map (g0 y)).length ≤ 8 := by rw [row_len]; omega
   have f1 : (x : Int) < (W : Int) := ltc (by omega)
   rw [← row_snoc, ← w64n x (by omega)] at ih'
   exact Ev.step (fun k => by rw [spec_l04Start.l1, if_pos f1, if_pos (lenb h8)]; rfl) ih'
 have key : ∀ d y : Nat, y + d = H → Ev (fun k => spec_l04Start.l0 k (W : Int) (H : Int) ((List.range y).map fun y => (List.range W).map (g0 y)) (y : Int)) (gridL H W g0) := by
  intro d
  induction d with
  | zero =>
   intro y hy
   obtain rfl : y = H := by omega
   have hn : ¬ (y : Int) < (y : Int) := Int.lt_irrefl _
   exact Ev.step (f := fun _ => some (gridL y W g0)) (fun k => by rw [spec_l04Start.l0, if_neg hn]; rfl) (Ev.now _)
  | succ d ih =>
   intro y hy
   have ih' := ih (y + 1) (by omega)
   rw [← row_snoc, ← w64n y (by omega)] at ih'
   have f1 : (y : Int) < (H : Int) := ltc (by omega)
   have h := hin y _ _ (by rw [List.length_map, List.length_range]; omega) ih' W 0 (by omega)
   exact Ev.step (fun k => by rw [spec_l04Start.l0, if_pos f1]; rfl) h
 exact key H 0 (by omega)
theorem leaves_stepA {s : ByteArray} {pos : Nat} {G G' : List (List (List SL))} {r : List SL} (hp : pos < s.size) (hp2 : pos < 1000) (hb : bt s (pos : Int) = 76 ∨ bt s (pos : Int) = 82) (h1 : Ev (fun k => spec_l04Along.f k G (bt s (pos : Int))) G') (h2 : Ev (fun k => spec_l04Leaves.l0 k s G' ((pos + 1 : Nat) : Int)) r) : Ev (fun k => spec_l04Leaves.l0 k s G (pos : Int)) r := by
 have f1 : (pos : Int) < (s.size : Int) := ltc hp
 refine Ev.step (f := fun k => spec_l04Leaves.j1 k s G (pos : Int) true) (fun k => ?_) ?_
 ·rw [spec_l04Leaves.l0, if_pos f1, if_pos (nn _)]
  rcases hb with hb | hb
  ·rw [if_pos hb]
  ·rw [if_neg (by rw [hb]; decide), hb]; rfl
 ·refine Ev.step (fun k => by rw [spec_l04Leaves.j1, if_pos rfl, if_pos (nn _), if_pos f1, w64n pos (by omega)]) ?_
  exact Ev.bind h1 h2
theorem leaves_stepB {s : ByteArray} {pos : Nat} {G G' : List (List (List SL))} {r : List SL} (hp : pos < s.size) (hp2 : pos < 1000) (hb : bt s (pos : Int) = 84 ∨ bt s (pos : Int) = 66) (h1 : Ev (fun k => spec_l04Across.f k G (bt s (pos : Int))) G') (h2 : Ev (fun k => spec_l04Leaves.l0 k s G' ((pos + 1 : Nat) : Int)) r) : Ev (fun k => spec_l04Leaves.l0 k s G (pos : Int)) r := by
 have f1 : (pos : Int) < (s.size : Int) := ltc hp
 refine Ev.step (f := fun k => spec_l04Leaves.j1 k s G (pos : Int) false) (fun k => ?_) ?_
 ·rw [spec_l04Leaves.l0, if_pos f1, if_pos (nn _)]
  rcases hb with hb | hb
  ·rw [if_neg (by rw [hb]; decide), hb]; rfl
  ·rw [if_neg (by rw [hb]; decide), hb]; rfl
 ·refine Ev.step (fun k => by rw [spec_l04Leaves.j1, if_neg (by simp), if_pos (nn _), if_pos f1, w64n pos (by omega)]) ?_
  exact Ev.bind h1 h2
theorem p2le {i n : Nat} (h : i ≤ n) : 2 ^ i ≤ 2 ^ n := Nat.pow_le_pow_right (by omega) h
theorem concat_ev {b c : List SL} (hb : b.length ≤ 64) (hc : c.length ≤ 64) : Ev (fun k => impl_Leaf_95.f k [b, c]) (b ++ c) := by
 have r0 : rd_L4 [b, c] 0 = b := rfl
 have r1 : rd_L4 [b, c] 1 = c := rfl
 have l2 : (([b, c] : List (List SL)).length : Int) = 2 := rfl
 have g0 : (0 : Int) < (([b, c] : List (List SL)).length : Int) := by rw [l2]; omega
 have g1 : (1 : Int) < (([b, c] : List (List SL)).length : Int) := by rw [l2]; omega
 have w1 : wrap64 (0 + 1) = 1 := by rw [w64 (by omega) (by omega)]; rfl
 have w2 : wrap64 (1 + 1) = 2 := by rw [w64 (by omega) (by omega)]; rfl
 have s1 : wrap64 (0 + (b.length : Int)) = (b.length : Int) := by rw [w64 (by omega) (by omega)]; omega
 have s2 : wrap64 ((b.length : Int) + (c.length : Int)) = ((b.length + c.length : Nat) : Int) := by rw [w64 (by omega) (by omega)]; omega
 have hg : impl_Leaf_114.f ([] : List SL) ((b.length + c.length : Nat) : Int) = some [] := by
  unfold impl_Leaf_114.f
  rw [if_pos rfl, if_pos (nn _), if_pos (by omega)]
 have a1 : ([] : List SL).length + b.length < 5864062014805 := by rw [List.length_nil]; omega
 have a2 : b.length + c.length < 5864062014805 := by omega
 generalize ([b, c] : List (List SL)) = G at r0 r1 l2 g0 g1
 refine Ev.step (f := fun k => impl_Leaf_95.l0 k G (b.length : Int) G 2 1) (fun k => ?_) ?_
 ·show impl_Leaf_95.l0 (k + 1) G 0 G (G.length : Int) 0 = _
  rw [l2, impl_Leaf_95.l0, r0, s1, w1, if_pos (by decide), if_pos (by decide), if_pos g0, if_neg (by omega)]
 refine Ev.step (f := fun k => impl_Leaf_95.l0 k G ((b.length + c.length : Nat) : Int) G 2 2) (fun k => ?_) ?_
 ·rw [impl_Leaf_95.l0, r1, s2, w2, if_pos (by decide), if_pos (by decide), if_pos g1, if_neg (by omega)]
 refine Ev.step (f := fun k => impl_Leaf_95.l1 k [] G 2 0) (fun k => ?_) ?_
 ·rw [impl_Leaf_95.l0, if_neg (by decide), hg, l2]; rfl
 refine Ev.step (f := fun k => impl_Leaf_95.l1 k b G 2 1) (fun k => ?_) ?_
 ·rw [impl_Leaf_95.l1, r0, w1, if_pos (by decide), if_pos (by decide), if_pos g0, if_pos a1, List.nil_append]
 refine Ev.step (f := fun k => impl_Leaf_95.l1 k (b ++ c) G 2 2) (fun k => ?_) ?_
 ·rw [impl_Leaf_95.l1, r1, w2, if_pos (by decide), if_pos (by decide), if_pos g1, if_pos a2]
 exact Ev.step (f := fun _ => some (b ++ c)) (fun k => by rw [impl_Leaf_95.l1, if_neg (by decide)]) (Ev.now _)
theorem hvrow_ev {c : Nat → Nat → Option (List SL)} {f : Nat → List SL} : ∀ (n x : Nat), (∀ i, x ≤ i → i < x + n → Ev (fun k => c k i) (f i)) → Ev (fun k => hv_row (c k) n x ((List.range x).map f)) ((List.range (x + n)).map f)
 | 0, x, _ => Ev.now _
 | n + 1, x, h => by
  refine Ev.bind (h x (by omega) (by omega)) ?_
  have := hvrow_ev (c := c) (f := f) n (x + 1) (fun i h1 h2 => h i (by omega) (by omega))
  rw [row_snoc, show x + (n + 1) = x + 1 + n by omega]
  exact this
theorem hvrows_ev {c : Nat → Nat → Option (List (List SL))} {f : Nat → List (List SL)} : ∀ (n x : Nat), (∀ i, x ≤ i → i < x + n → Ev (fun k => c k i) (f i)) → Ev (fun k => hv_rows (c k) n x ((List.range x).map f)) ((List.range (x + n)).map f)
 | 0, x, _ => Ev.now _
 | n + 1, x, h => by
  refine Ev.bind (h x (by omega) (by omega)) ?_
  have := hvrows_ev (c := c) (f := f) n (x + 1) (fun i h1 h2 => h i (by omega) (by omega))
  rw [row_snoc, show x + (n + 1) = x + 1 + n by omega]
  exact this
theorem hvat_eq {H W : Nat} {g : Nat → Nat → List SL} (a : Bool) (h w x y : Nat) (s o : Bool) {Y X : Nat} (hY : (if a = true then hv_pos h y s o else y) = Y) (hX : (if a = true then x else hv_pos w x s o) = X) (h1 : Y < H) (h2 : X < W) : hv_at (gridL H W g) a h w x y s o = some (g Y X) := by
 unfold hv_at
 rw [hY, hX, if_pos (by rw [gridL_len]; exact h1), gridL_getD h1, if_pos (by rw [row_len]; exact h2), row_getD h2]
theorem halved_along {H W : Nat} {g : Nat → Nat → List SL} (f : Bool) (hH : 0 < H ∧ H ≤ 8) (hW : W ≤ 4) (hg : ∀ y x, y < H → x < 2 * W → (g y x).length ≤ 64) : Ev (fun k => impl_halved.f k (gridL H (2 * W) g) false f) (gridL H W (gAlong f W g)) := by
 have hl : ((gridL H (2 * W) g).getD 0 []).length = 2 * W := by rw [gridL_getD hH.1, row_len]
 have hc : 0 < (gridL H (2 * W) g).length ∧ (gridL H (2 * W) g).length ≤ 1000 ∧ ((gridL H (2 * W) g).getD 0 []).length ≤ 1000 := by rw [gridL_len, hl]; omega
 unfold impl_halved.f
 refine Ev_ite_t hc ?_
 rw [hl, gridL_len, show hvH false H = H from rfl, show hvW false (2 * W) = W from by unfold hvW; simp]
 have key := hvrows_ev (c := fun k y => hv_row (fun x => hv_cell k (gridL H (2 * W) g) false f H W y x) W 0 []) (f := fun y => (List.range W).map (gAlong f W g y)) H 0 (fun y _ hy => by
  have hr := hvrow_ev (c := fun k x => hv_cell k (gridL H (2 * W) g) false f H W y x) (f := gAlong f W g y) W 0 (fun x _ hx => by
   have b1 := hg y (ovr f W x) (by omega) (by unfold ovr; split <;> omega)
   have b2 := hg y (und f W x) (by omega) (by unfold und; split <;> omega)
   unfold hv_cell
   rw [hvat_eq (H := H) (W := 2 * W) (g := g) false H W x y (!f) true (Y := y) (X := ovr f W x) rfl (by cases f <;> simp [hv_pos, ovr] <;> omega) (by omega) (by unfold ovr; split <;> omega),
    hvat_eq (H := H) (W := 2 * W) (g := g) false H W x y f false (Y := y) (X := und f W x) rfl (by cases f <;> simp [hv_pos, und] <;> omega) (by omega) (by unfold und; split <;> omega)]
   simp only [Option.bind_some]
   rw [implFlip_eq false b1]
   simp only [Option.bind_some]
   exact concat_ev (by rw [turnL_len]; exact b1) b2)
  rw [Nat.zero_add] at hr
  exact hr)
 rw [Nat.zero_add] at key
 exact key
theorem halved_across {H W : Nat} {g : Nat → Nat → List SL} (f : Bool) (hH : 0 < H ∧ H ≤ 4) (hW : W ≤ 8) (hg : ∀ y x, y < 2 * H → x < W → (g y x).length ≤ 64) : Ev (fun k => impl_halved.f k (gridL (2 * H) W g) true f) (gridL H W (gAcross f H g)) := by
 have hl : ((gridL (2 * H) W g).getD 0 []).length = W := by rw [gridL_getD (by omega), row_len]
 have hc : 0 < (gridL (2 * H) W g).length ∧ (gridL (2 * H) W g).length ≤ 1000 ∧ ((gridL (2 * H) W g).getD 0 []).length ≤ 1000 := by rw [gridL_len, hl]; omega
 unfold impl_halved.f
 refine Ev_ite_t hc ?_
 rw [hl, gridL_len, show hvW true W = W from rfl, show hvH true (2 * H) = H from by unfold hvH; simp]
 have key := hvrows_ev (c := fun k y => hv_row (fun x => hv_cell k (gridL (2 * H) W g) true f H W y x) W 0 []) (f := fun y => (List.range W).map (gAcross f H g y)) H 0 (fun y _ hy => by
  have hr := hvrow_ev (c := fun k x => hv_cell k (gridL (2 * H) W g) true f H W y x) (f := gAcross f H g y) W 0 (fun x _ hx => by
   have b1 := hg (ovr f H y) x (by unfold ovr; split <;> omega) (by omega)
   have b2 := hg (und f H y) x (by unfold und; split <;> omega) (by omega)
   unfold hv_cell
   rw [hvat_eq (H := 2 * H) (W := W) (g := g) true H W x y (!f) true (Y := ovr f H y) (X := x) (by cases f <;> simp [hv_pos, ovr] <;> omega) rfl (by unfold ovr; split <;> omega) (by omega),
    hvat_eq (H := 2 * H) (W := W) (g := g) true H W x y f false (Y := und f H y) (X := x) (by cases f <;> simp [hv_pos, und] <;> omega) rfl (by unfold und; split <;> omega) (by omega)]
   simp only [Option.bind_some]
   rw [implFlip_eq true b1]
   simp only [Option.bind_some]
   exact concat_ev (by rw [turnL_len]; exact b1) b2)
  rw [Nat.zero_add] at hr
  exact hr)
 rw [Nat.zero_add] at key
 exact key
-- the sheet before any fold
theorem implStart_ev {H W : Nat} (s : ByteArray) (hH : H ≤ 8) (hW : W ≤ 8) (r : List SL) (hr : Ev (fun k => impl_foldSheet.l2 k s (gridL H W g0) (s.size : Int) 0) r) : Ev (fun k => impl_foldSheet.f k (W : Int) (H : Int) s) r := by
 have hin : ∀ (y : Nat) (a5 : List (List (List SL))) (r : List SL), a5.length ≤ 8 → Ev (fun k => impl_foldSheet.l0 k (W : Int) s (a5 ++ [(List.range W).map (g0 y)]) (H : Int) (wrap64 ((y : Int) + 1))) r → ∀ d x : Nat, x + d = W → Ev (fun k => impl_foldSheet.l1 k (W : Int) s a5 (y : Int) ((List.range x).map (g0 y)) (H : Int) (y : Int) (W : Int) (x : Int)) r := by
  intro y a5 r h5 hr d
  induction d with
  | zero =>
   intro x hx
   obtain rfl : x = W := by omega
   have hn : ¬ (x : Int) < (x : Int) := Int.lt_irrefl _
   exact Ev.step (fun k => by rw [impl_foldSheet.l1, if_neg hn, if_pos (lenb h5)]) hr
  | succ d ih =>
   intro x hx
   have ih' := ih (x + 1) (by omega)
   have h8 : ((List.range x).map (g0 y)).length ≤ 8 := by rw [row_len]; omega
   have f1 : (x : Int) < (W : Int) := ltc (by omega)
   rw [← row_snoc, ← w64n x (by omega)] at ih'
   exact Ev.step (fun k => by rw [impl_foldSheet.l1, if_pos f1, if_pos (lenb h8)]; rfl) ih'
 have key : ∀ d y : Nat, y + d = H → Ev (fun k => impl_foldSheet.l0 k (W : Int) s ((List.range y).map fun y => (List.range W).map (g0 y)) (H : Int) (y : Int)) r := by
  intro d
  induction d with
  | zero =>
   intro y hy
   obtain rfl : y = H := by omega
   have hn : ¬ (y : Int) < (y : Int) := Int.lt_irrefl _
   exact Ev.step (fun k => by rw [impl_foldSheet.l0, if_neg hn]; rfl) hr
  | succ d ih =>
   intro y hy
   have ih' := ih (y + 1) (by omega)
   rw [← row_snoc, ← w64n y (by omega)] at ih'
   have f1 : (y : Int) < (H : Int) := ltc (by omega)
   have h := hin y _ _ (by rw [List.length_map, List.length_range]; omega) ih' W 0 (by omega)
   exact Ev.step (fun k => by rw [impl_foldSheet.l0, if_pos f1]; rfl) h
 exact key H 0 (by omega)
theorem ifold_step {s : ByteArray} {pos : Nat} {G G' : List (List (List SL))} {r : List SL} (a f : Bool) (hp : pos < s.size) (hp2 : pos < 1000) (hb : (bt s (pos : Int) = 84 ∧ a = true ∧ f = true) ∨ (bt s (pos : Int) = 76 ∧ a = false ∧ f = true) ∨ (bt s (pos : Int) = 82 ∧ a = false ∧ f = false) ∨ (bt s (pos : Int) = 66 ∧ a = true ∧ f = false)) (h1 : Ev (fun k => impl_halved.f k G a f) G') (h2 : Ev (fun k => impl_foldSheet.l2 k s G' (s.size : Int) ((pos + 1 : Nat) : Int)) r) : Ev (fun k => impl_foldSheet.l2 k s G (s.size : Int) (pos : Int)) r := by
 have f1 : (pos : Int) < (s.size : Int) := ltc hp
 have e1 := w64n pos (by omega)
 refine Ev.step (f := fun k => (impl_halved.f k G a f).bind fun t => impl_foldSheet.l2 k s t (s.size : Int) ((pos + 1 : Nat) : Int)) (fun k => ?_) (Ev.bind h1 h2)
 rw [impl_foldSheet.l2, if_pos f1, if_pos (nn _), if_pos f1, e1]
 rcases hb with ⟨hb, rfl, rfl⟩ | ⟨hb, rfl, rfl⟩ | ⟨hb, rfl, rfl⟩ | ⟨hb, rfl, rfl⟩
 ·rw [hb, if_pos rfl, if_neg (by decide)]; rfl
 ·rw [hb, if_neg (by decide), if_pos rfl]; rfl
 ·rw [hb, if_neg (by decide), if_neg (by decide)]; rfl
 ·rw [hb, if_neg (by decide), if_neg (by decide)]; rfl
theorem leaves_loop (s : ByteArray) (hs : s.size ≤ 6) : ∀ (d pos i j C : Nat) (g : Nat → Nat → List SL), pos + d = s.size → (∀ x ∈ s.data.toList.drop pos, ([76, 82, 84, 66] : List UInt8).contains x = true) → lrc (s.data.toList.drop pos) = i → d = i + j → i ≤ 3 → j ≤ 3 → (∀ y x, y < 2 ^ j → x < 2 ^ i → (g y x).length = C) → C * 2 ^ d ≤ 64 →
  Ev (fun k => spec_l04Leaves.l0 k s (gridL (2 ^ j) (2 ^ i) g) (pos : Int)) (gfold (s.data.toList.drop pos) (2 ^ j) (2 ^ i) g) ∧ Ev (fun k => impl_foldSheet.l2 k s (gridL (2 ^ j) (2 ^ i) g) (s.size : Int) (pos : Int)) (gfold (s.data.toList.drop pos) (2 ^ j) (2 ^ i) g) ∧ (gfold (s.data.toList.drop pos) (2 ^ j) (2 ^ i) g).length = C * 2 ^ d := by
 have hz : s.size = s.data.toList.length := by simp
 intro d
 induction d with
 | zero =>
  intro pos i j C g hp hall hl hd hi hj hC h64
  obtain rfl : i = 0 := by omega
  obtain rfl : j = 0 := by omega
  rw [List.drop_of_length_le (by omega), gfold]
  have n1 : ¬ (pos : Int) < (s.size : Int) := nltc (by omega)
  have a1 : (0 : Int) < ((gridL (2 ^ 0) (2 ^ 0) g).length : Int) := by rw [gridL_len]; decide
  have a2 : rd_L5 (gridL (2 ^ 0) (2 ^ 0) g) 0 = [g 0 0] := rfl
  have a3 : rd_L4 [g 0 0] 0 = g 0 0 := rfl
  have a4 : (0 : Int) < (([g 0 0] : List (List SL)).length : Int) := by show (0 : Int) < 1; decide
  refine ⟨Ev.step (f := fun _ => some (g 0 0)) (fun k => ?_) (Ev.now _), Ev.step (f := fun _ => some (g 0 0)) (fun k => ?_) (Ev.now _), by rw [hC 0 0 (by decide) (by decide)]; omega⟩
  ·rw [spec_l04Leaves.l0, if_neg n1, if_pos a1, a2, if_pos a4, a3]
  ·rw [impl_foldSheet.l2, if_neg n1, if_pos a1, a2, if_pos a4, a3]
 | succ d ih =>
  intro pos i j C g hp hall hl hd hi hj hC h64
  have hil : pos < s.data.toList.length := by omega
  have hdr := List.drop_eq_getElem_cons hil
  have hb := bt_list s pos (by omega)
  rw [hdr] at hall hl ⊢
  have hc := hall _ List.mem_cons_self
  have hall' := fun x hx => hall x (List.mem_cons_of_mem _ hx)
  rw [lrc_cons] at hl
  generalize s.data.toList[pos] = c at hb hc hl ⊢
  have hCle : C ≤ 32 := by
   have h1 : 1 ≤ 2 ^ d := Nat.one_le_two_pow
   rw [Nat.pow_succ] at h64
   have h2 : C * 2 ≤ C * (2 ^ d * 2) := Nat.mul_le_mul_left _ (by omega)
   omega
  have h64' : (C + C) * 2 ^ d ≤ 64 := by rw [Nat.pow_succ] at h64; rw [Nat.add_mul, ← Nat.two_mul, ← Nat.mul_assoc, Nat.mul_comm 2 C, Nat.mul_assoc, Nat.mul_comm 2]; exact h64
  have hlen' : (C + C) * 2 ^ d = C * 2 ^ (d + 1) := by rw [Nat.pow_succ, Nat.add_mul, ← Nat.two_mul, ← Nat.mul_assoc, Nat.mul_comm 2 C, Nat.mul_assoc, Nat.mul_comm 2]
  by_cases h1 : c = 76 ∨ c = 82
  ·rw [if_pos h1] at hl
   obtain ⟨i, rfl⟩ : ∃ q, i = q + 1 := ⟨i - 1, by omega⟩
   have hW : 2 ^ (i + 1) = 2 * 2 ^ i := by rw [Nat.pow_succ, Nat.mul_comm]
   have hW4 : 2 ^ i ≤ 4 := p2le (n := 2) (by omega)
   have hH8 : 2 ^ j ≤ 8 := p2le (n := 3) hj
   have hH0 : 0 < 2 ^ j := Nat.pow_pos (by omega)
   rw [gfold, if_pos h1, hW, Nat.mul_div_cancel_left _ (by omega : 0 < 2)]
   have hg : ∀ y x, y < 2 ^ j → x < 2 * 2 ^ i → (g y x).length ≤ 64 := fun y x hy hx => by rw [hC y x hy (by rw [hW]; exact hx)]; omega
   have hC' : ∀ y x, y < 2 ^ j → x < 2 ^ i → (gAlong (c == 76) (2 ^ i) g y x).length = C + C := fun y x hy hx => by
    unfold gAlong
    rw [List.length_append, turnL_len, hC y _ hy (by rw [hW]; unfold ovr; split <;> omega), hC y _ hy (by rw [hW]; unfold und; split <;> omega)]
   obtain ⟨j1, j2, j3⟩ := ih (pos + 1) i j (C + C) (gAlong (c == 76) (2 ^ i) g) (by omega) hall' (by omega) (by omega) (by omega) hj hC' h64'
   have a1 := along_ev (bt s (pos : Int)) hH8 hW4 hg
   have a2 := halved_along (c == 76) ⟨hH0, hH8⟩ hW4 hg
   rcases h1 with rfl | rfl
   ·have hb' : bt s (pos : Int) = 76 := hb
    refine ⟨leaves_stepA (by omega) (by omega) (.inl hb') a1 ?_, ifold_step false true (by omega) (by omega) (.inr (.inl ⟨hb', rfl, rfl⟩)) a2 j2, j3.trans hlen'⟩
    rw [hb']; exact j1
   ·have hb' : bt s (pos : Int) = 82 := hb
    refine ⟨leaves_stepA (by omega) (by omega) (.inr hb') a1 ?_, ifold_step false false (by omega) (by omega) (.inr (.inr (.inl ⟨hb', rfl, rfl⟩))) a2 j2, j3.trans hlen'⟩
    rw [hb']; exact j1
  ·rw [if_neg h1] at hl
   have hdj : lrc (s.data.toList.drop (pos + 1)) ≤ d := by
    have := lrc_le (s.data.toList.drop (pos + 1))
    rw [List.length_drop] at this
    omega
   have h2 : c = 84 ∨ c = 66 := by
    simp only [List.contains_cons, List.contains_nil, Bool.or_false, Bool.or_eq_true, beq_iff_eq] at hc
    rcases hc with e | e | e | e
    ·exact (h1 (.inl e)).elim
    ·exact (h1 (.inr e)).elim
    ·exact .inl e
    ·exact .inr e
   obtain ⟨j, rfl⟩ : ∃ q, j = q + 1 := ⟨j - 1, by omega⟩
   have hH : 2 ^ (j + 1) = 2 * 2 ^ j := by rw [Nat.pow_succ, Nat.mul_comm]
   have hH4 : 2 ^ j ≤ 4 := p2le (n := 2) (by omega)
   have hW8 : 2 ^ i ≤ 8 := p2le (n := 3) hi
   have hH0 : 0 < 2 ^ j := Nat.pow_pos (by omega)
   rw [gfold, if_neg h1, hH, Nat.mul_div_cancel_left _ (by omega : 0 < 2)]
   have hg : ∀ y x, y < 2 * 2 ^ j → x < 2 ^ i → (g y x).length ≤ 64 := fun y x hy hx => by rw [hC y x (by rw [hH]; exact hy) hx]; omega
   have hC' : ∀ y x, y < 2 ^ j → x < 2 ^ i → (gAcross (c == 84) (2 ^ j) g y x).length = C + C := fun y x hy hx => by
    unfold gAcross
    rw [List.length_append, turnL_len, hC _ x (by rw [hH]; unfold ovr; split <;> omega) hx, hC _ x (by rw [hH]; unfold und; split <;> omega) hx]
   obtain ⟨j1, j2, j3⟩ := ih (pos + 1) i j (C + C) (gAcross (c == 84) (2 ^ j) g) (by omega) hall' (by omega) (by omega) hi (by omega) hC' h64'
   have a1 := across_ev (bt s (pos : Int)) hH4 hW8 hg
   have a2 := halved_across (c == 84) ⟨hH0, hH4⟩ hW8 hg
   rcases h2 with rfl | rfl
   ·have hb' : bt s (pos : Int) = 84 := hb
    refine ⟨leaves_stepB (by omega) (by omega) (.inl hb') a1 ?_, ifold_step true true (by omega) (by omega) (.inl ⟨hb', rfl, rfl⟩) a2 j2, j3.trans hlen'⟩
    rw [hb']; exact j1
   ·have hb' : bt s (pos : Int) = 66 := hb
    refine ⟨leaves_stepB (by omega) (by omega) (.inr hb') a1 ?_, ifold_step true false (by omega) (by omega) (.inr (.inr (.inr ⟨hb', rfl, rfl⟩))) a2 j2, j3.trans hlen'⟩
    rw [hb']; exact j1
theorem leaves_two {a b : Int} {s : ByteArray} {i j : Nat} (hi : i ≤ 3) (hj : j ≤ 3) (ha : a = ((2 ^ i : Nat) : Int)) (hb : b = ((2 ^ j : Nat) : Int)) (hall : ∀ x ∈ s.data.toList, ([76, 82, 84, 66] : List UInt8).contains x = true) (hl : lrc s.data.toList = i) (hn : s.data.toList.length = i + j) :
  Ev (fun k => spec_l04Leaves.f k a b s) (gfold s.data.toList (2 ^ j) (2 ^ i) g0) ∧ Ev (fun k => impl_foldSheet.f k a b s) (gfold s.data.toList (2 ^ j) (2 ^ i) g0) ∧ (gfold s.data.toList (2 ^ j) (2 ^ i) g0).length = 2 ^ (i + j) := by
 have hz : s.size = s.data.toList.length := by simp
 subst ha hb
 have hW8 : 2 ^ i ≤ 8 := p2le (n := 3) hi
 have hH8 : 2 ^ j ≤ 8 := p2le (n := 3) hj
 obtain ⟨h1, h2, h3⟩ := leaves_loop s (by omega) s.size 0 i j 1 g0 (by omega) hall hl (by omega) hi hj (fun _ _ _ _ => rfl) (by rw [Nat.one_mul]; exact p2le (n := 6) (by omega))
 rw [List.drop_zero] at h1 h2 h3
 refine ⟨?_, implStart_ev s hH8 hW8 _ h2, ?_⟩
 ·unfold spec_l04Leaves.f
  exact Ev.bind (specStart_ev hH8 hW8) h1
 ·rw [h3, hz, hn, Nat.one_mul]
def okSch (a b : Int) (s : ByteArray) : Prop := ∃ i j : Nat, i ≤ 3 ∧ j ≤ 3 ∧ a = ((2 ^ i : Nat) : Int) ∧ b = ((2 ^ j : Nat) : Int) ∧ (∀ x ∈ s.data.toList, ([76, 82, 84, 66] : List UInt8).contains x = true) ∧ lrc s.data.toList = i ∧ s.data.toList.length = i + j
theorem side_cases (a : Int) : (∃ j : Nat, j ≤ 3 ∧ a = ((2 ^ j : Nat) : Int) ∧ spec_l04Power.f a = some ((j : Int), true) ∧ impl_isSide.f a = some true ∧ Ev (fun k => impl_halvings.f k a) (j : Int)) ∨ (spec_l04Power.f a = some (0, false) ∧ impl_isSide.f a = some false) := by
 by_cases h1 : a = 1
 ·subst h1; exact .inl ⟨0, by decide, by decide, by decide +kernel, by decide +kernel, Ev.of (impl_halvings.mono _) (k := 10) (by decide +kernel)⟩
 by_cases h2 : a = 2
 ·subst h2; exact .inl ⟨1, by decide, by decide, by decide +kernel, by decide +kernel, Ev.of (impl_halvings.mono _) (k := 10) (by decide +kernel)⟩
 by_cases h4 : a = 4
 ·subst h4; exact .inl ⟨2, by decide, by decide, by decide +kernel, by decide +kernel, Ev.of (impl_halvings.mono _) (k := 10) (by decide +kernel)⟩
 by_cases h8 : a = 8
 ·subst h8; exact .inl ⟨3, by decide, by decide, by decide +kernel, by decide +kernel, Ev.of (impl_halvings.mono _) (k := 10) (by decide +kernel)⟩
 ·refine .inr ⟨?_, ?_⟩
  ·unfold spec_l04Power.f
   rw [if_neg h1, if_neg h2, if_neg h4, if_neg h8]
  ·unfold impl_isSide.f
   rw [if_neg h1, if_neg h2, if_neg h4, show (a == 8) = false from beq_false_of_ne h8]
theorem trim_nil (cs : List UInt8) : ∀ l : List UInt8, Go.Lib.trimS l cs = [] ↔ ∀ b ∈ l, cs.contains b = true := by
 have dw : ∀ l : List UInt8, l.dropWhile (cs.contains ·) = [] ↔ ∀ b ∈ l, cs.contains b = true := by
  intro l
  induction l with
  | nil => simp
  | cons a t ih =>
   rw [List.dropWhile_cons]
   by_cases h : cs.contains a = true
   ·rw [if_pos h, ih]
    exact ⟨fun g b hb => by rcases List.mem_cons.1 hb with rfl | hb; exact h; exact g b hb, fun g b hb => g b (List.mem_cons_of_mem _ hb)⟩
   ·rw [if_neg h]
    exact ⟨fun g => (List.cons_ne_nil _ _ g).elim, fun g => absurd (g a List.mem_cons_self) h⟩
 intro l
 unfold Go.Lib.trimS Go.Lib.trimLeftS
 rw [dw]
 unfold Go.Lib.trimRightS
 constructor
 ·intro g
  have e : l.reverse.dropWhile (cs.contains ·) = [] := by
   cases hd : l.reverse.dropWhile (cs.contains ·) with
   | nil => rfl
   | cons a t =>
    have h1 := List.head?_dropWhile_not (cs.contains ·) l.reverse
    rw [hd] at h1 g
    have h2 := g a (by simp)
    simp only [List.head?_cons] at h1
    rw [h2] at h1
    cases h1
  intro b hb
  exact (dw l.reverse).1 e b (List.mem_reverse.2 hb)
 ·intro g
  have e := (dw l.reverse).2 (fun b hb => g b (List.mem_reverse.1 hb))
  rw [e]
  intro b hb
  simp at hb
def sL (one two : Bool) : List UInt8 → Int → Int → Bool
 | [], a, b => if one = true then (if two = true then (if a = 0 then b == 0 else false) else false) else false
 | c :: t, a, b => if c = 76 ∨ c = 82 then sL one two t (a - 1) b else if c = 84 ∨ c = 66 then sL one two t a (b - 1) else false
theorem sL_iff (one two : Bool) : ∀ (l : List UInt8) (a b : Int), sL one two l a b = true ↔ (∀ x ∈ l, ([76, 82, 84, 66] : List UInt8).contains x = true) ∧ one = true ∧ two = true ∧ a = (lrc l : Int) ∧ b = (l.length : Int) - (lrc l : Int)
 | [], a, b => by
  rw [sL, show lrc [] = 0 from rfl]
  cases one <;> cases two <;> simp <;> omega
 | c :: t, a, b => by
  rw [sL, lrc_cons, List.length_cons]
  by_cases h1 : c = 76 ∨ c = 82
  ·rw [if_pos h1, if_pos h1, sL_iff one two t]
   have hc : ([76, 82, 84, 66] : List UInt8).contains c = true := by rcases h1 with rfl | rfl <;> decide
   constructor
   ·rintro ⟨g1, g2, g3, g4, g5⟩
    exact ⟨fun x hx => by rcases List.mem_cons.1 hx with rfl | hx; exact hc; exact g1 x hx, g2, g3, by omega, by omega⟩
   ·rintro ⟨g1, g2, g3, g4, g5⟩
    exact ⟨fun x hx => g1 x (List.mem_cons_of_mem _ hx), g2, g3, by omega, by omega⟩
  ·rw [if_neg h1, if_neg h1]
   by_cases h2 : c = 84 ∨ c = 66
   ·rw [if_pos h2, sL_iff one two t]
    have hc : ([76, 82, 84, 66] : List UInt8).contains c = true := by rcases h2 with rfl | rfl <;> decide
    constructor
    ·rintro ⟨g1, g2, g3, g4, g5⟩
     exact ⟨fun x hx => by rcases List.mem_cons.1 hx with rfl | hx; exact hc; exact g1 x hx, g2, g3, by omega, by omega⟩
    ·rintro ⟨g1, g2, g3, g4, g5⟩
     exact ⟨fun x hx => g1 x (List.mem_cons_of_mem _ hx), g2, g3, by omega, by omega⟩
   ·rw [if_neg h2]
    constructor
    ·intro z; cases z
    ·rintro ⟨g1, _⟩
     have := g1 c List.mem_cons_self
     simp only [List.contains_cons, List.contains_nil, Bool.or_false, Bool.or_eq_true, beq_iff_eq] at this
     rcases this with e | e | e | e
     ·exact (h1 (.inl e)).elim
     ·exact (h1 (.inr e)).elim
     ·exact (h2 (.inl e)).elim
     ·exact (h2 (.inr e)).elim
theorem specIsScheme_loop (s : ByteArray) (one two : Bool) (hs : s.size ≤ 1048576) : ∀ (d i : Nat), i + d = s.size → ∀ a b : Int, -4000000 ≤ a - (d : Int) → a ≤ 4000000 → -4000000 ≤ b - (d : Int) → b ≤ 4000000 → Ev (fun k => spec_IsScheme.l0 k s a one b two (i : Int)) (sL one two (s.data.toList.drop i) a b) := by
 have hz : s.size = s.data.toList.length := by simp
 intro d
 induction d with
 | zero =>
  intro i hi a b _ _ _ _
  rw [List.drop_of_length_le (by omega), sL]
  refine Ev.step (f := fun _ => some (if one = true then (if two = true then (if a = 0 then b == 0 else false) else false) else false)) (fun k => ?_) (Ev.now _)
  rw [spec_IsScheme.l0, if_neg (by omega)]
  cases one <;> cases two <;> by_cases h : a = 0 <;> simp [h]
 | succ d ih =>
  intro i hi a b h1 h2 h3 h4
  have hil : i < s.data.toList.length := by omega
  rw [List.drop_eq_getElem_cons hil, sL]
  have hb := bt_list s i (by omega)
  generalize s.data.toList[i] = c at hb
  have b76 := byte_eq c 76 (by omega)
  have b82 := byte_eq c 82 (by omega)
  have b84 := byte_eq c 84 (by omega)
  have b66 := byte_eq c 66 (by omega)
  have e76 : bt s (i : Int) = 76 ↔ c = 76 := by rw [hb]; exact b76
  have e82 : bt s (i : Int) = 82 ↔ c = 82 := by rw [hb]; exact b82
  have e84 : bt s (i : Int) = 84 ↔ c = 84 := by rw [hb]; exact b84
  have e66 : bt s (i : Int) = 66 ↔ c = 66 := by rw [hb]; exact b66
  have step : ∀ r, Ev (fun k => spec_IsScheme.j1 k s a one b two (i : Int) (bt s (i : Int)) (decide (c = 76 ∨ c = 82))) r → Ev (fun k => spec_IsScheme.l0 k s a one b two (i : Int)) r := by
   intro r hr
   refine Ev.step (fun k => ?_) hr
   rw [spec_IsScheme.l0, if_pos (by omega), if_pos (by omega)]
   by_cases c1 : bt s (i : Int) = 76
   ·rw [if_pos c1, show ((bt s (i : Int)) == 76) = true from by rw [c1]; rfl, decide_eq_true (.inl (e76.1 c1))]
   ·rw [if_neg c1]
    by_cases c2 : bt s (i : Int) = 82
    ·rw [show ((bt s (i : Int)) == 82) = true from by rw [c2]; rfl, decide_eq_true (.inr (e82.1 c2))]
    ·rw [show ((bt s (i : Int)) == 82) = false from beq_false_of_ne c2, decide_eq_false (fun z => by rcases z with z | z; exact c1 (e76.2 z); exact c2 (e82.2 z))]
  apply step
  by_cases g1 : c = 76 ∨ c = 82
  ·rw [if_pos g1, decide_eq_true g1]
   refine Ev.step (fun k => by rw [spec_IsScheme.j1, if_pos rfl, w64n i (by omega), w64 (x := a - 1) (by omega) (by omega)]) ?_
   exact ih (i + 1) (by omega) _ _ (by omega) (by omega) (by omega) (by omega)
  ·rw [if_neg g1, decide_eq_false g1]
   by_cases g2 : c = 84 ∨ c = 66
   ·rw [if_pos g2]
    refine Ev.step (f := fun k => spec_IsScheme.l0 k s a one (b - 1) two ((i + 1 : Nat) : Int)) (fun k => ?_) (ih (i + 1) (by omega) _ _ (by omega) (by omega) (by omega) (by omega))
    rw [spec_IsScheme.j1, if_neg (by simp), w64n i (by omega), w64 (x := b - 1) (by omega) (by omega)]
    by_cases c3 : bt s (i : Int) = 84
    ·rw [if_pos c3]
    ·rw [if_neg c3, if_pos (e66.2 (by rcases g2 with z | z; exact (c3 (e84.2 z)).elim; exact z))]
   ·rw [if_neg g2]
    refine Ev.step (f := fun _ => some false) (fun k => ?_) (Ev.now _)
    rw [spec_IsScheme.j1, if_neg (by simp), if_neg (fun z => g2 (.inl (e84.1 z))), if_neg (fun z => g2 (.inr (e66.1 z)))]
theorem isScheme_two (a b : Int) (s : ByteArray) (hs : s.size ≤ 1048576) : ∃ v : Bool, Ev (fun k => spec_IsScheme.f k a b s) v ∧ Ev (fun k => impl_IsScheme.f k a b s) v ∧ (v = true → ∃ i j : Nat, i ≤ 3 ∧ j ≤ 3 ∧ a = ((2 ^ i : Nat) : Int) ∧ b = ((2 ^ j : Nat) : Int) ∧ (∀ x ∈ s.data.toList, ([76, 82, 84, 66] : List UInt8).contains x = true) ∧ lrc s.data.toList = i ∧ s.data.toList.length = i + j) := by
 have hz : s.size = s.data.toList.length := by simp
 have hle := lrc_le s.data.toList
 have spec : ∀ (i j : Nat) (one two : Bool), i ≤ 3 → j ≤ 3 → spec_l04Power.f a = some ((i : Int), one) → spec_l04Power.f b = some ((j : Int), two) → Ev (fun k => spec_IsScheme.f k a b s) (sL one two s.data.toList (i : Int) (j : Int)) := by
  intro i j one two hi hj p1 p2
  unfold spec_IsScheme.f
  rw [p1, p2]
  refine Ev.bind (Ev.now _) (Ev.bind (Ev.now _) ?_)
  have := specIsScheme_loop s one two hs s.size 0 (by omega) (i : Int) (j : Int) (by omega) (by omega) (by omega) (by omega)
  rw [List.drop_zero] at this
  exact Ev.congr (fun k => rfl) this
 have no : ∀ (i j : Nat) (one two : Bool), (one = false ∨ two = false) → sL one two s.data.toList (i : Int) (j : Int) = false := by
  intro i j one two h
  rw [Bool.eq_false_iff]
  intro z
  obtain ⟨_, z1, z2, _⟩ := (sL_iff _ _ _ _ _).1 z
  rcases h with h | h
  ·rw [h] at z1; cases z1
  ·rw [h] at z2; cases z2
 have bad : impl_isSheet.f a b = some false → Ev (fun k => impl_IsScheme.f k a b s) false := by
  intro h
  unfold impl_IsScheme.f
  rw [h]
  exact Ev.bind (Ev.now _) (Ev_ite_f (by simp) (Ev.now _))
 rcases side_cases a with ⟨i, i1, i2, i3, i4, i5⟩ | ⟨i3, i4⟩
 ·rcases side_cases b with ⟨j, j1, j2, j3, j4, j5⟩ | ⟨j3, j4⟩
  ·have hsh : impl_isSheet.f a b = some true := by unfold impl_isSheet.f; rw [i4, j4]; rfl
   refine ⟨_, spec i j true true i1 j1 i3 j3, ?_, ?_⟩
   ·unfold impl_IsScheme.f
    rw [hsh]
    refine Ev.bind (Ev.now _) (Ev_ite_t rfl (Ev_ite_t hs ?_))
    have hiff := sL_iff true true s.data.toList (i : Int) (j : Int)
    have hlr : lrcount s = lrc s.data.toList := rfl
    by_cases ht : Go.Lib.trimS s.data.toList [76, 82, 84, 66] = []
    ·refine Ev_ite_t ht (Ev.bind i5 ?_)
     have hall := (trim_nil _ _).1 ht
     by_cases hc : (lrcount s : Int) = (i : Int)
     ·refine Ev_ite_t hc (Ev.bind j5 ?_)
      have e : sL true true s.data.toList (i : Int) (j : Int) = decide ((s.size : Int) - (lrcount s : Int) = (j : Int)) := by
       rw [Bool.eq_iff_iff, hiff, decide_eq_true_iff]
       constructor
       ·rintro ⟨_, _, _, g1, g2⟩
        rw [hz, hlr, g2]
       ·intro g
        exact ⟨hall, rfl, rfl, by rw [← hlr, hc], by rw [← hlr, ← hz, g]⟩
      rw [e]
      exact Ev.now _
     ·rw [show sL true true s.data.toList (i : Int) (j : Int) = false from by
       rw [Bool.eq_false_iff]; intro z
       obtain ⟨_, _, _, z4, _⟩ := hiff.1 z
       exact hc (by rw [hlr, z4])]
      exact Ev_ite_f hc (Ev.now _)
    ·rw [show sL true true s.data.toList (i : Int) (j : Int) = false from by
      rw [Bool.eq_false_iff]; intro z
      exact ht ((trim_nil _ _).2 (hiff.1 z).1)]
     exact Ev_ite_f ht (Ev.now _)
   ·intro z
    obtain ⟨z1, _, _, z4, z5⟩ := (sL_iff _ _ _ _ _).1 z
    exact ⟨i, j, i1, j1, i2, j2, z1, by omega, by omega⟩
  ·have hsh : impl_isSheet.f a b = some false := by unfold impl_isSheet.f; rw [i4, j4]; rfl
   have e := spec i 0 true false i1 (by omega) i3 j3
   rw [no i 0 true false (.inr rfl)] at e
   exact ⟨false, e, bad hsh, fun z => by cases z⟩
 ·have hsh : impl_isSheet.f a b = some false := by unfold impl_isSheet.f; rw [i4]; rfl
  rcases side_cases b with ⟨j, j1, j2, j3, j4, j5⟩ | ⟨j3, j4⟩
  ·have e := spec 0 j false true (by omega) j1 i3 j3
   rw [no 0 j false true (.inl rfl)] at e
   exact ⟨false, e, bad hsh, fun z => by cases z⟩
  ·have e := spec 0 0 false false (by omega) (by omega) i3 j3
   rw [no 0 0 false false (.inl rfl)] at e
   exact ⟨false, e, bad hsh, fun z => by cases z⟩
def sumN : Nat → (Nat → Nat) → Nat
 | 0, _ => 0
 | n + 1, f => sumN n f + f n
theorem sumN_congr {n : Nat} {f g : Nat → Nat} (h : ∀ i, i < n → f i = g i) : sumN n f = sumN n g := by
 induction n with
 | zero => rfl
 | succ n ih => rw [sumN, sumN, ih (fun i hi => h i (by omega)), h n (by omega)]
theorem sumN_plus (m n : Nat) (f : Nat → Nat) : sumN (m + n) f = sumN m f + sumN n (fun i => f (m + i)) := by
 induction n with
 | zero => rfl
 | succ n ih => rw [← Nat.add_assoc, sumN, ih, sumN]; omega
theorem sumN_rev (n : Nat) (f : Nat → Nat) : sumN n f = sumN n (fun i => f (n - 1 - i)) := by
 induction n generalizing f with
 | zero => rfl
 | succ n ih =>
  rw [sumN, ih f, Nat.add_comm n 1, sumN_plus 1 n]
  show _ = (0 + f (1 + n - 1 - 0)) + _
  rw [show 1 + n - 1 - 0 = n by omega, Nat.zero_add, Nat.add_comm]
  congr 1
  exact sumN_congr (fun i hi => by rw [show 1 + n - 1 - (1 + i) = n - 1 - i by omega])
theorem sumN_add (n : Nat) (f g : Nat → Nat) : sumN n (fun i => f i + g i) = sumN n f + sumN n g := by
 induction n with
 | zero => rfl
 | succ n ih => rw [sumN, sumN, sumN, ih]; omega
theorem sumN_fold (b : Bool) (n : Nat) (f : Nat → Nat) : sumN (2 * n) f = sumN n (fun i => f (ovr b n i) + f (und b n i)) := by
 rw [sumN_add, Nat.two_mul, sumN_plus]
 cases b
 ·rw [show sumN n (fun i => f (und false n i)) = sumN n f from rfl, sumN_rev n (fun i => f (n + i)), Nat.add_comm]
  congr 1
  exact sumN_congr (fun i hi => by show f (n + (n - 1 - i)) = f (2 * n - 1 - i); rw [show n + (n - 1 - i) = 2 * n - 1 - i by omega])
 ·rw [show sumN n (fun i => f (und true n i)) = sumN n (fun i => f (n + i)) from rfl, sumN_rev n f]
  rfl
theorem turn_count {P : SL → Bool} (hP : ∀ a x, P (spec_l04Turn.togg a x) = P x) (a : Bool) (l : List SL) : (turnL a l).countP P = l.countP P := by
 unfold turnL
 rw [List.countP_map, List.countP_reverse]
 congr 1
 funext x
 exact hP a x
def gsum (P : SL → Bool) (H W : Nat) (g : Nat → Nat → List SL) : Nat := sumN H (fun y => sumN W (fun x => (g y x).countP P))
theorem gsum_along {P : SL → Bool} (hP : ∀ a x, P (spec_l04Turn.togg a x) = P x) (b : Bool) (H W : Nat) (g : Nat → Nat → List SL) : gsum P H W (gAlong b W g) = gsum P H (2 * W) g := by
 unfold gsum
 refine sumN_congr (fun y _ => ?_)
 rw [sumN_fold b]
 refine sumN_congr (fun x _ => ?_)
 unfold gAlong
 rw [List.countP_append, turn_count hP]
theorem gsum_across {P : SL → Bool} (hP : ∀ a x, P (spec_l04Turn.togg a x) = P x) (b : Bool) (H W : Nat) (g : Nat → Nat → List SL) : gsum P H W (gAcross b H g) = gsum P (2 * H) W g := by
 unfold gsum
 rw [sumN_fold b]
 refine sumN_congr (fun y _ => ?_)
 rw [← sumN_add]
 refine sumN_congr (fun x _ => ?_)
 unfold gAcross
 rw [List.countP_append, turn_count hP]
theorem gfold_count {P : SL → Bool} (hP : ∀ a x, P (spec_l04Turn.togg a x) = P x) : ∀ (t : List UInt8) (i j : Nat) (g : Nat → Nat → List SL), lrc t = i → t.length = i + j → (gfold t (2 ^ j) (2 ^ i) g).countP P = gsum P (2 ^ j) (2 ^ i) g
 | [], i, j, g, h1, h2 => by
  obtain rfl : i = 0 := by rw [← h1]; rfl
  obtain rfl : j = 0 := by simpa using h2.symm
  show (g 0 0).countP P = 0 + (0 + (g 0 0).countP P)
  omega
 | c :: t, i, j, g, h1, h2 => by
  rw [lrc_cons] at h1
  rw [List.length_cons] at h2
  have hle := lrc_le t
  rw [gfold]
  by_cases hc : c = 76 ∨ c = 82
  ·rw [if_pos hc] at h1
   obtain ⟨i, rfl⟩ : ∃ q, i = q + 1 := ⟨i - 1, by omega⟩
   rw [if_pos hc, Nat.pow_succ 2 i, Nat.mul_comm (2 ^ i) 2, Nat.mul_div_cancel_left _ (by omega : 0 < 2), gfold_count hP t i j _ (by omega) (by omega), gsum_along hP]
  ·rw [if_neg hc] at h1
   obtain ⟨j, rfl⟩ : ∃ q, j = q + 1 := ⟨j - 1, by omega⟩
   rw [if_neg hc, Nat.pow_succ 2 j, Nat.mul_comm (2 ^ j) 2, Nat.mul_div_cancel_left _ (by omega : 0 < 2), gfold_count hP t i j _ (by omega) (by omega), gsum_across hP]
def atL (x y : Int) (v : SL) : Bool := if v.f0 = x then v.f1 == y else false
theorem atL_togg (x y : Int) (a : Bool) (v : SL) : atL x y (spec_l04Turn.togg a v) = atL x y v := by cases a <;> rfl
theorem sumN_one (n a : Nat) (h : a < n) (c : Nat) : sumN n (fun i => if i = a then c else 0) = c := by
 have hz : ∀ m, m ≤ a → sumN m (fun i => if i = a then c else 0) = 0 := by
  intro m
  induction m with
  | zero => intro _; rfl
  | succ m ih => intro hm; rw [sumN, ih (by omega), if_neg (by omega)]
 induction n with
 | zero => omega
 | succ n ih =>
  rw [sumN]
  by_cases he : n = a
  ·rw [if_pos he, hz n (by omega), Nat.zero_add]
  ·rw [if_neg he, ih (by omega), Nat.add_zero]
theorem start_count (H W x y : Nat) (hx : x < W) (hy : y < H) : gsum (atL (x : Int) (y : Int)) H W g0 = 1 := by
 unfold gsum
 rw [← sumN_one H y hy 1]
 refine sumN_congr (fun j _ => ?_)
 by_cases hj : j = y
 ·subst hj
  rw [if_pos rfl, ← sumN_one W x hx 1]
  refine sumN_congr (fun i _ => ?_)
  unfold g0 atL
  by_cases hi : i = x
  ·subst hi; simp
  ·rw [if_neg hi]
   have : ¬ ((i : Int) = (x : Int)) := by omega
   simp [this]
 ·rw [if_neg hj]
  rw [show sumN W (fun i => (g0 j i).countP (atL (x : Int) (y : Int))) = sumN W (fun _ => 0) from sumN_congr (fun i _ => by
   unfold g0 atL
   have : ¬ ((j : Int) = (y : Int)) := by omega
   simp [this])]
  have hz : ∀ m, sumN m (fun _ => 0) = 0 := by
   intro m
   induction m with
   | zero => rfl
   | succ m ih => rw [sumN, ih]
  exact hz W
theorem fold_count {s : List UInt8} {i j x y : Nat} (hl : lrc s = i) (hn : s.length = i + j) (hx : x < 2 ^ i) (hy : y < 2 ^ j) : (gfold s (2 ^ j) (2 ^ i) g0).countP (atL (x : Int) (y : Int)) = 1 := by
 rw [gfold_count (atL_togg _ _) s i j g0 hl hn, start_count _ _ x y hx hy]
theorem rdT_get {l : List SL} {i : Nat} (h : i < l.length) : rd_T64 l (i : Int) = l[i] := by
 unfold rd_T64
 rw [Int.toNat_natCast, List.getD_eq_getElem?_getD, List.getElem?_eq_getElem h]
 rfl
def dnL (x : SL) : Bool := x.f2 != x.f3
def outL (W H : Nat) (v : SL) : Bool := !decide (0 ≤ v.f0 ∧ v.f0 < (W : Int) ∧ 0 ≤ v.f1 ∧ v.f1 < (H : Int))
theorem outL_togg (W H : Nat) (a : Bool) (v : SL) : outL W H (spec_l04Turn.togg a v) = outL W H v := by cases a <;> rfl
theorem sumN_zero (m : Nat) : sumN m (fun _ => 0) = 0 := by
 induction m with
 | zero => rfl
 | succ m ih => rw [sumN, ih]
theorem fold_in {s : List UInt8} {i j : Nat} (hl : lrc s = i) (hn : s.length = i + j) : ∀ v ∈ gfold s (2 ^ j) (2 ^ i) g0, 0 ≤ v.f0 ∧ v.f0 < ((2 ^ i : Nat) : Int) ∧ 0 ≤ v.f1 ∧ v.f1 < ((2 ^ j : Nat) : Int) := by
 have h := gfold_count (outL_togg (2 ^ i) (2 ^ j)) s i j g0 hl hn
 have hz : gsum (outL (2 ^ i) (2 ^ j)) (2 ^ j) (2 ^ i) g0 = 0 := by
  unfold gsum
  rw [← sumN_zero (2 ^ j)]
  refine sumN_congr (fun y hy => ?_)
  rw [← sumN_zero (2 ^ i)]
  refine sumN_congr (fun x hx => ?_)
  have hp : outL (2 ^ i) (2 ^ j) ⟨(x : Int), (y : Int), false, false⟩ = false := by
   unfold outL
   rw [decide_eq_true ⟨nn x, ltc hx, nn y, ltc hy⟩]
   rfl
  show ([⟨(x : Int), (y : Int), false, false⟩] : List SL).countP (outL (2 ^ i) (2 ^ j)) = 0
  rw [List.countP_cons, hp]
  rfl
 rw [hz, List.countP_eq_zero] at h
 intro v hv
 have := h v hv
 unfold outL at this
 simpa using this
theorem dn_togg (a : Bool) (v : SL) : dnL (spec_l04Turn.togg a v) = !dnL v := by
 obtain ⟨_, _, c, d⟩ := v
 cases a <;> cases c <;> cases d <;> rfl
theorem dn_turn (a : Bool) (l : List SL) : (turnL a l).countP dnL + l.countP dnL = l.length := by
 unfold turnL
 rw [List.countP_map, List.countP_reverse]
 induction l with
 | nil => rfl
 | cons x t ih =>
  rw [List.countP_cons, List.countP_cons, List.length_cons]
  have e : (dnL ∘ spec_l04Turn.togg a) x = !dnL x := dn_togg a x
  rw [e]
  cases hd : dnL x with
  | true => rw [if_neg (by decide), if_pos rfl]; omega
  | false => rw [if_pos (by decide), if_neg (by decide)]; omega
def HalfDn (g : Nat → Nat → List SL) (m : Nat) : Prop := ∀ y x, (g y x).length = m ∧ 2 * (g y x).countP dnL = m
theorem half_along {g : Nat → Nat → List SL} {m : Nat} (f : Bool) (W : Nat) (h : HalfDn g m) : HalfDn (gAlong f W g) (2 * m) := by
 intro y x
 unfold gAlong
 have h1 := dn_turn true (g y (ovr f W x))
 have h2 := h y (ovr f W x)
 have h3 := h y (und f W x)
 rw [List.length_append, turnL_len, List.countP_append]
 omega
theorem half_across {g : Nat → Nat → List SL} {m : Nat} (f : Bool) (H : Nat) (h : HalfDn g m) : HalfDn (gAcross f H g) (2 * m) := by
 intro y x
 unfold gAcross
 have h1 := dn_turn false (g (ovr f H y) x)
 have h2 := h (ovr f H y) x
 have h3 := h (und f H y) x
 rw [List.length_append, turnL_len, List.countP_append]
 omega
theorem half_fold : ∀ (t : List UInt8) (H W m : Nat) (g : Nat → Nat → List SL), HalfDn g m → 2 * (gfold t H W g).countP dnL = (gfold t H W g).length
 | [], H, W, m, g, h => by rw [gfold, (h 0 0).1]; exact (h 0 0).2
 | c :: t, H, W, m, g, h => by
  rw [gfold]
  split
  ·exact half_fold t _ _ _ _ (half_along _ _ h)
  ·exact half_fold t _ _ _ _ (half_across _ _ h)
theorem g0_one (y x : Nat) : (g0 y x).length = 1 ∧ (g0 y x).countP dnL = 0 := ⟨rfl, rfl⟩
theorem half_first (c : UInt8) (t : List UInt8) (H W : Nat) : 2 * (gfold (c :: t) H W g0).countP dnL = (gfold (c :: t) H W g0).length := by
 rw [gfold]
 split
 ·refine half_fold t _ _ 2 _ (fun y x => ?_)
  unfold gAlong
  have h1 := dn_turn true (g0 y (ovr (c == 76) (W / 2) x))
  have h2 := g0_one y (ovr (c == 76) (W / 2) x)
  have h3 := g0_one y (und (c == 76) (W / 2) x)
  rw [List.length_append, turnL_len, List.countP_append]
  omega
 ·refine half_fold t _ _ 2 _ (fun y x => ?_)
  unfold gAcross
  have h1 := dn_turn false (g0 (ovr (c == 84) (H / 2) y) x)
  have h2 := g0_one (ovr (c == 84) (H / 2) y) x
  have h3 := g0_one (und (c == 84) (H / 2) y) x
  rw [List.length_append, turnL_len, List.countP_append]
  omega
theorem fold_full {a b : Int} {s : ByteArray} (h : okSch a b s) : ∃ l : List SL, Ev (fun k => spec_l04Leaves.f k a b s) l ∧ Ev (fun k => impl_foldSheet.f k a b s) l ∧ l.length ≤ 64 ∧ (l.length : Int) = a * b ∧ wrap64 (a * b) = a * b ∧ (∀ x y : Int, 0 ≤ x → x < a → 0 ≤ y → y < b → l.countP (atL x y) = 1) ∧ (∀ v ∈ l, 0 ≤ v.f0 ∧ v.f0 < a ∧ 0 ≤ v.f1 ∧ v.f1 < b) ∧ (s.data.toList = [] ∨ 2 * l.countP dnL = l.length) := by
 obtain ⟨i, j, hi, hj, ha, hb, hall, hl, hn⟩ := h
 obtain ⟨h1, h2, h3⟩ := leaves_two hi hj ha hb hall hl hn
 have h64 : 2 ^ (i + j) ≤ 64 := p2le (n := 6) (by omega)
 have hab : ((2 ^ (i + j) : Nat) : Int) = a * b := by
  rw [ha, hb, Nat.pow_add]
  exact Int.natCast_mul _ _
 refine ⟨_, h1, h2, by rw [h3]; exact h64, by rw [h3]; exact hab, ?_, ?_, ?_, ?_⟩
 ·rw [← hab]
  generalize 2 ^ (i + j) = q at h64
  exact w64 (by omega) (by omega)
 ·intro x y x0 x1 y0 y1
  obtain ⟨x, rfl⟩ := Int.eq_ofNat_of_zero_le x0
  obtain ⟨y, rfl⟩ := Int.eq_ofNat_of_zero_le y0
  rw [ha] at x1
  rw [hb] at y1
  exact fold_count hl hn (Int.ofNat_lt.1 x1) (Int.ofNat_lt.1 y1)
 ·rw [ha, hb]
  exact fold_in hl hn
 ·cases hs : s.data.toList with
  | nil => exact .inl rfl
  | cons c t => exact .inr (half_first c t _ _)
/-- One leaf's pages, laid into the form's three lists. -/
def dn5 (v : SL) : Bool := v.f2 != v.f3
theorem cellN {A C : Nat} {v : SL} (hA : A ≤ 8) (hC : C ≤ 8) (h0 : 0 ≤ v.f0) (h1 : v.f0 < (A : Int)) (h2 : 0 ≤ v.f1) (h3 : v.f1 < (C : Int)) :
  wrap64 (wrap64 (v.f1 * (A : Int)) + v.f0) = ((v.f1.toNat * A + v.f0.toNat : Nat) : Int) ∧ wrap64 (wrap64 (wrap64 (wrap64 (v.f1 * (A : Int)) + (A : Int)) - 1) - v.f0) = ((v.f1.toNat * A + A - 1 - v.f0.toNat : Nat) : Int) ∧ v.f1.toNat * A + v.f0.toNat < A * C ∧ v.f1.toNat * A + A - 1 - v.f0.toNat < A * C := by
 obtain ⟨f0, f1, f2, f3⟩ := v
 simp only at h0 h1 h2 h3 ⊢
 obtain ⟨x, rfl⟩ := Int.eq_ofNat_of_zero_le h0
 obtain ⟨y, rfl⟩ := Int.eq_ofNat_of_zero_le h2
 have hx : x < A := Int.ofNat_lt.1 h1
 have hy : y < C := Int.ofNat_lt.1 h3
 have e3 : (y : Int) * (A : Int) = ((y * A : Nat) : Int) := (Int.natCast_mul _ _).symm
 have hyA : (y + 1) * A ≤ C * A := Nat.mul_le_mul_right A hy
 rw [Nat.mul_comm C A, Nat.succ_mul] at hyA
 have h64 : A * C ≤ 64 := Nat.mul_le_mul hA hC
 simp only [Int.toNat_natCast]
 rw [e3]
 generalize y * A = q at hyA
 generalize A * C = n at hyA h64
 refine ⟨?_, ?_, by omega, by omega⟩
 ·rw [w64 (x := (q : Int)) (by omega) (by omega), w64 (by omega) (by omega)]; omega
 ·rw [w64 (x := (q : Int)) (by omega) (by omega), w64 (x := (q : Int) + (A : Int)) (by omega) (by omega), w64 (x := (q : Int) + (A : Int) - 1) (by omega) (by omega), w64 (by omega) (by omega)]; omega
/-- What is read of one leaf. -/
def rdOne (A : Nat) (F B H : List Int) (v : SL) : List Int :=
 if rd H ((v.f1.toNat * A + v.f0.toNat : Nat) : Int) = (if v.f3 = true then 1 else 0) then
  (if dn5 v = true then [rd B ((v.f1.toNat * A + A - 1 - v.f0.toNat : Nat) : Int), rd F ((v.f1.toNat * A + v.f0.toNat : Nat) : Int)] else [rd F ((v.f1.toNat * A + v.f0.toNat : Nat) : Int), rd B ((v.f1.toNat * A + A - 1 - v.f0.toNat : Nat) : Int)])
 else
  (if dn5 v = true then [wrap64 (-rd B ((v.f1.toNat * A + A - 1 - v.f0.toNat : Nat) : Int)), wrap64 (-rd F ((v.f1.toNat * A + v.f0.toNat : Nat) : Int))] else [wrap64 (-rd F ((v.f1.toNat * A + v.f0.toNat : Nat) : Int)), wrap64 (-rd B ((v.f1.toNat * A + A - 1 - v.f0.toNat : Nat) : Int))])
theorem rdOne_len (A : Nat) (F B H : List Int) (v : SL) : (rdOne A F B H v).length = 2 := by
 unfold rdOne
 by_cases h : rd H ((v.f1.toNat * A + v.f0.toNat : Nat) : Int) = (if v.f3 = true then 1 else 0)
 ·rw [if_pos h]
  by_cases hd : dn5 v = true
  ·rw [if_pos hd]; rfl
  ·rw [if_neg hd]; rfl
 ·rw [if_neg h]
  by_cases hd : dn5 v = true
  ·rw [if_pos hd]; rfl
  ·rw [if_neg hd]; rfl
def rdAll (A : Nat) (F B H : List Int) (l : List SL) : List Int := l.flatMap (rdOne A F B H)
theorem rdAll_len (A : Nat) (F B H : List Int) : ∀ l : List SL, (rdAll A F B H l).length = 2 * l.length
 | [] => rfl
 | v :: t => by
  have := rdAll_len A F B H t
  unfold rdAll at this ⊢
  rw [List.flatMap_cons, List.length_append, rdOne_len, this, List.length_cons]
  omega
theorem rdAll_snoc (A : Nat) (F B H : List Int) (l : List SL) (i : Nat) (h : i < l.length) : rdAll A F B H (l.take (i + 1)) = rdAll A F B H (l.take i) ++ rdOne A F B H l[i] := by
 unfold rdAll
 rw [List.take_add_one, List.getElem?_eq_getElem h, List.flatMap_append]
 simp
theorem head01 {H : List Int} (h : ∀ x ∈ H, 0 ≤ x ∧ x ≤ 1) {i : Nat} (hi : i < H.length) (f : Bool) : (f != (rd H (i : Int) == 1)) = true ↔ ¬ rd H (i : Int) = (if f = true then 1 else 0) := by
 have := h _ (rd_mem hi)
 generalize rd H (i : Int) = x at this
 have hx : x = 0 ∨ x = 1 := by omega
 rcases hx with rfl | rfl <;> cases f <;> decide
theorem toInt_eq (f : Bool) : impl_toInt.f f = some (if f = true then 1 else 0) := by cases f <;> rfl
theorem read_loops (A C : Nat) (hA : A ≤ 8) (hC : C ≤ 8) (F B H : List Int) (hF : F.length = A * C) (hB : B.length = A * C) (hH : H.length = A * C) (h01 : ∀ x ∈ H, 0 ≤ x ∧ x ≤ 1) (b : Int) (l : List SL) (hl : l.length ≤ 64) (hin : ∀ v ∈ l, 0 ≤ v.f0 ∧ v.f0 < (A : Int) ∧ 0 ≤ v.f1 ∧ v.f1 < (C : Int)) : ∀ (d i : Nat), i + d = l.length → Ev (fun k => spec_l05Read.l0 k l (rdAll A F B H (l.take i)) (i : Int) (A : Int) b F B H) (rdAll A F B H l) ∧ Ev (fun k => impl_readForm.l0 k (rdAll A F B H (l.take i)) l (l.length : Int) (i : Int) (A : Int) b F B H) (rdAll A F B H l) := by
 intro d
 induction d with
 | zero =>
  intro i hi
  obtain rfl : i = l.length := by omega
  rw [List.take_length]
  exact ⟨Ev.step (f := fun _ => some (rdAll A F B H l)) (fun k => by rw [spec_l05Read.l0, if_neg (by omega)]) (Ev.now _), Ev.step (f := fun _ => some (rdAll A F B H l)) (fun k => by rw [impl_readForm.l0, if_neg (by omega)]) (Ev.now _)⟩
 | succ d ih =>
  intro i hi
  have hil : i < l.length := by omega
  obtain ⟨s1, s2⟩ := ih (i + 1) (by omega)
  rw [rdAll_snoc A F B H l i hil] at s1 s2
  have hacc : (rdAll A F B H (l.take i)).length + 2 < 17592186044416 := by rw [rdAll_len, List.length_take]; omega
  have hg := rdT_get hil
  obtain ⟨v0, v1, v2, v3⟩ := hin _ (List.getElem_mem hil)
  generalize l[i] = v at hg v0 v1 v2 v3 s1 s2
  generalize rdAll A F B H (l.take i) = acc at s1 s2 hacc
  have g0 : (i : Int) < (l.length : Int) := by omega
  have g1 : 0 ≤ (i : Int) := by omega
  have hi64 : i ≤ 64 := by omega
  obtain ⟨c1, c2, c3, c4⟩ := cellN hA hC v0 v1 v2 v3
  have f1 : ((v.f1.toNat * A + v.f0.toNat : Nat) : Int) < (F.length : Int) := by rw [hF]; exact Int.ofNat_lt.2 c3
  have f2 : ((v.f1.toNat * A + A - 1 - v.f0.toNat : Nat) : Int) < (B.length : Int) := by rw [hB]; exact Int.ofNat_lt.2 c4
  have f3 : ((v.f1.toNat * A + v.f0.toNat : Nat) : Int) < (H.length : Int) := by rw [hH]; exact Int.ofNat_lt.2 c3
  have z1 : 0 ≤ ((v.f1.toNat * A + v.f0.toNat : Nat) : Int) := Int.natCast_nonneg _
  have z2 : 0 ≤ ((v.f1.toNat * A + A - 1 - v.f0.toNat : Nat) : Int) := Int.natCast_nonneg _
  have hw := w64n i (Nat.lt_of_le_of_lt hi64 (by decide))
  have hd := head01 h01 (by rw [hH]; exact c3) v.f3
  have ht := toInt_eq v.f3
  have p1 := @rdOne.eq_1 A F B H v
  generalize v.f1.toNat * A + v.f0.toNat = p at c1 f1 f3 z1 hd p1
  generalize v.f1.toNat * A + A - 1 - v.f0.toNat = q at c2 f2 z2 p1
  -- both joins, for whatever two pages
  have J : ∀ (u w : Int), rdOne A F B H v = (if rd H (p : Int) = (if v.f3 = true then 1 else 0) then [u, w] else [wrap64 (-u), wrap64 (-w)]) → Ev (fun k => spec_l05Read.j1 k l acc (i : Int) (p : Int) u w (A : Int) b F B H v.f0 v.f1 v.f2 v.f3) (rdAll A F B H l) ∧ Ev (fun k => impl_readForm.j1 k acc (p : Int) u w l (l.length : Int) (i : Int) (A : Int) b F B H v.f0 v.f1 v.f2 v.f3) (rdAll A F B H l) := by
   intro u w hr
   by_cases hh : rd H (p : Int) = (if v.f3 = true then 1 else 0)
   ·rw [if_pos hh] at hr
    rw [hr] at s1 s2
    have hn : ¬ (v.f3 != (rd H (p : Int) == 1)) = true := fun z => (hd.1 z) hh
    refine ⟨Ev.step (fun k => ?_) s1, Ev.step (fun k => ?_) s2⟩
    ·rw [spec_l05Read.j1, if_pos z1, if_pos f3, if_neg hn, Option.bind_some, if_pos (show acc.length + [u, w].length < 17592186044416 from hacc), hw]
    ·rw [impl_readForm.j1, if_pos z1, if_pos f3, ht, Option.bind_some, if_pos hh, Option.bind_some, if_pos (show acc.length + [u, w].length < 17592186044416 from hacc), hw]
   ·rw [if_neg hh] at hr
    rw [hr] at s1 s2
    have hn : (v.f3 != (rd H (p : Int) == 1)) = true := hd.2 hh
    refine ⟨Ev.step (fun k => ?_) s1, Ev.step (fun k => ?_) s2⟩
    ·rw [spec_l05Read.j1, if_pos z1, if_pos f3, if_pos hn, Option.bind_some, if_pos (show acc.length + [wrap64 (-u), wrap64 (-w)].length < 17592186044416 from hacc), hw]
    ·rw [impl_readForm.j1, if_pos z1, if_pos f3, ht, Option.bind_some, if_neg hh, Option.bind_some, if_pos (show acc.length + [wrap64 (-u), wrap64 (-w)].length < 17592186044416 from hacc), hw]
  by_cases hdn : dn5 v = true
  ·obtain ⟨j1, j2⟩ := J (rd B (q : Int)) (rd F (p : Int)) (by rw [p1, if_pos hdn, if_pos hdn])
   have hdn' : (v.f2 != v.f3) = true := hdn
   refine ⟨Ev.step (fun k => ?_) j1, Ev.step (fun k => ?_) j2⟩
   ·rw [spec_l05Read.l0, if_pos g0, if_pos g1, hg, c1, c2, if_pos z1, if_pos f1, if_pos z2, if_pos f2, spec_l04Down.f, Option.bind_some, if_pos hdn']
   ·rw [impl_readForm.l0, if_pos g0, if_pos g1, if_pos g0, hg, impl_frontPlace.f, c1, Option.bind_some, if_pos z1, if_pos f1, impl_backPlace.f, c2, Option.bind_some, if_pos z2, if_pos f2, impl_downLeaf.f, Option.bind_some, if_pos hdn']
  ·obtain ⟨j1, j2⟩ := J (rd F (p : Int)) (rd B (q : Int)) (by rw [p1, if_neg hdn, if_neg hdn])
   have hdn' : ¬ (v.f2 != v.f3) = true := hdn
   refine ⟨Ev.step (fun k => ?_) j1, Ev.step (fun k => ?_) j2⟩
   ·rw [spec_l05Read.l0, if_pos g0, if_pos g1, hg, c1, c2, if_pos z1, if_pos f1, if_pos z2, if_pos f2, spec_l04Down.f, Option.bind_some, if_neg hdn']
   ·rw [impl_readForm.l0, if_pos g0, if_pos g1, if_pos g0, hg, impl_frontPlace.f, c1, Option.bind_some, if_pos z1, if_pos f1, impl_backPlace.f, c2, Option.bind_some, if_pos z2, if_pos f2, impl_downLeaf.f, Option.bind_some, if_neg hdn']
theorem formOk_at {a b : Int} {F B H : List Int} (h : FormOk a b F B H) : ∃ i j : Nat, i ≤ 3 ∧ j ≤ 3 ∧ a = ((2 ^ i : Nat) : Int) ∧ b = ((2 ^ j : Nat) : Int) ∧ F.length = 2 ^ i * 2 ^ j ∧ B.length = 2 ^ i * 2 ^ j ∧ H.length = 2 ^ i * 2 ^ j ∧ (∀ x ∈ H, 0 ≤ x ∧ x ≤ 1) := by
 obtain ⟨i, j, i1, j1, ha, hb, hF, hB, hH, h4, _⟩ := h
 rw [Nat.pow_add] at hF hB hH
 exact ⟨i, j, i1, j1, ha, hb, hF, hB, hH, h4⟩
/-- Both read the same pages. -/
theorem readForm_two {a b : Int} {F B H : List Int} {s : ByteArray} (hf : FormOk a b F B H) (hs : okSch a b s) : ∃ (A C : Nat) (l : List SL), 0 < A ∧ A ≤ 8 ∧ 0 < C ∧ C ≤ 8 ∧ a = (A : Int) ∧ b = (C : Int) ∧ F.length = A * C ∧ B.length = A * C ∧ H.length = A * C ∧ l.length = A * C ∧ (∀ v ∈ l, 0 ≤ v.f0 ∧ v.f0 < (A : Int) ∧ 0 ≤ v.f1 ∧ v.f1 < (C : Int)) ∧ (∀ x y : Int, 0 ≤ x → x < (A : Int) → 0 ≤ y → y < (C : Int) → l.countP (atL x y) = 1) ∧ Ev (fun k => spec_l04Leaves.f k a b s) l ∧ Ev (fun k => impl_foldSheet.f k a b s) l ∧ Ev (fun k => spec_l05Read.f k a b F B H s) (rdAll A F B H l) ∧ Ev (fun k => impl_readForm.f k a b F B H s) (rdAll A F B H l) := by
 obtain ⟨i, j, i1, j1, ha, hb, hF, hB, hH, h4⟩ := formOk_at hf
 obtain ⟨l, l1, l2, l3, l4, _, l6, l7, _⟩ := fold_full hs
 have p : ∀ q : Nat, q ≤ 3 → 0 < 2 ^ q ∧ 2 ^ q ≤ 8 := fun q hq => ⟨Nat.pow_pos (by omega), Nat.le_trans (Nat.pow_le_pow_right (by omega) hq) (by decide)⟩
 obtain ⟨A0, A8⟩ := p i i1
 obtain ⟨C0, C8⟩ := p j j1
 generalize 2 ^ i = A at *
 generalize 2 ^ j = C at *
 have hlen : l.length = A * C := by
  rw [ha, hb] at l4
  have e : (A : Int) * (C : Int) = ((A * C : Nat) : Int) := (Int.natCast_mul _ _).symm
  rw [e] at l4
  omega
 rw [ha, hb] at l6 l7
 obtain ⟨r1, r2⟩ := read_loops A C A8 C8 F B H hF hB hH h4 b l l3 l7 l.length 0 (by omega)
 refine ⟨A, C, l, A0, A8, C0, C8, ha, hb, hF, hB, hH, hlen, l7, l6, l1, l2, ?_, ?_⟩
 ·unfold spec_l05Read.f
  refine Ev.bind l1 ?_
  rw [ha]
  exact r1
 ·unfold impl_readForm.f
  refine Ev.bind l2 ?_
  rw [ha]
  exact r2
theorem checkForm_two (a b : Int) (F B H : List Int) (s : ByteArray) (hl : H.length ≤ 1048576) (hs : s.size ≤ 1048576) : ∃ c : Int, Ev (fun k => spec_l05Code.f k a b F B H s) c ∧ Ev (fun k => impl_checkForm.f k a b F B H s) c ∧ (c = 0 → FormOk a b F B H ∧ okSch a b s) := by
 obtain ⟨v, v1, v2, v3⟩ := isForm_two a b F B H hl
 obtain ⟨u, u1, u2, u3⟩ := isScheme_two a b s hs
 unfold spec_l05Code.f impl_checkForm.f
 cases v with
 | false => exact ⟨1, Ev.bind v1 (Ev_ite_f (by simp) (Ev.now _)), Ev.bind v2 (Ev_ite_f (by simp) (Ev.now _)), fun z => by cases z⟩
 | true =>
  cases u with
  | false => exact ⟨2, Ev.bind v1 (Ev_ite_t rfl (Ev.bind u1 (Ev_ite_f (by simp) (Ev.now _)))), Ev.bind v2 (Ev_ite_t rfl (Ev.bind u2 (Ev_ite_f (by simp) (Ev.now _)))), fun z => by cases z⟩
  | true => exact ⟨0, Ev.bind v1 (Ev_ite_t rfl (Ev.bind u1 (Ev_ite_t rfl (Ev.now _)))), Ev.bind v2 (Ev_ite_t rfl (Ev.bind u2 (Ev_ite_t rfl (Ev.now _)))), fun _ => ⟨v3.1 rfl, u3 rfl⟩⟩
theorem readForm_full (a b : Int) (F B H : List Int) (s : ByteArray) (hl : H.length ≤ 1048576) (hs : s.size ≤ 1048576) : ∃ r : List Int × Int, Ev (fun k => spec_ReadForm.f k a b F B H s) r ∧ Ev (fun k => impl_ReadForm.f k a b F B H s) r ∧ r.1.length ≤ 1000 := by
 obtain ⟨c, c1, c2, c3⟩ := checkForm_two a b F B H s hl hs
 unfold spec_ReadForm.f impl_ReadForm.f
 by_cases hc : c = 0
 ·obtain ⟨h1, h2⟩ := c3 hc
  obtain ⟨A, C, l, A0, A8, C0, C8, _, _, _, _, _, hlen, _, _, _, _, r1, r2⟩ := readForm_two h1 h2
  have h64 : A * C ≤ 64 := Nat.mul_le_mul A8 C8
  exact ⟨(rdAll A F B H l, 0), Ev.bind c1 (Ev_ite_t hc (Ev.bind r1 (Ev.now _))), Ev.bind c2 (Ev_ite_t hc (Ev.bind r2 (Ev.now _))), by show (rdAll A F B H l).length ≤ 1000; rw [rdAll_len]; omega⟩
 ·exact ⟨([], c), Ev.bind c1 (Ev_ite_f hc (Ev.now _)), Ev.bind c2 (Ev_ite_f hc (Ev.now _)), by simp⟩
theorem toInt64S_ev (l : List Int) (hl : l.length ≤ 35184372088832) : Ev (fun k => laws_toInt64S.f k l) l := by
 have loop : ∀ (d i : Nat), i + d = l.length → ∀ x : List Int, x.length = l.length → (∀ j : Nat, j < i → rd x (j : Int) = rd l (j : Int)) → Ev (fun k => laws_toInt64S.l0 k l x (i : Int)) l := by
  intro d
  induction d with
  | zero =>
   intro i hi x hx h
   obtain rfl : x = l := rd_ext hx (fun j hj => h j (by omega))
   refine Ev.step (f := fun _ => some x) (fun k => by rw [laws_toInt64S.l0, if_neg (by omega)]) (Ev.now _)
  | succ d ih =>
   intro i hi x hx h
   refine Ev.step (f := fun k => laws_toInt64S.l0 k l (x.set i (rd l (i : Int))) ((i + 1 : Nat) : Int)) (fun k => by rw [laws_toInt64S.l0, if_pos (by omega), if_pos (by omega), if_pos (by omega), w64n i (by omega), toNat_cast]) ?_
   refine ih (i + 1) (by omega) _ (by rw [List.length_set]; exact hx) (fun j hj => ?_)
   rw [rd_set (by omega)]
   by_cases e : i = j
   ·rw [if_pos e, e]
   ·rw [if_neg e]; exact h j (by omega)
 refine Ev.congr (f := fun k => laws_toInt64S.l0 k l (List.replicate l.length 0) ((0 : Nat) : Int)) (fun k => ?_) (loop l.length 0 (by omega) _ (by simp) (fun j hj => by omega))
 simp only [laws_toInt64S.f, toNat_cast]
 rw [if_pos (by omega), if_pos (by omega)]
 rfl
theorem eqInt64S_ev (l : List Int) (hl : l.length ≤ 35184372088832) : Ev (fun k => laws_eqInt64S.f k l l) true := by
 have loop : ∀ (d i : Nat), i + d = l.length → Ev (fun k => laws_eqInt64S.l0 k l l (i : Int)) true := by
  intro d
  induction d with
  | zero =>
   intro i hi
   refine Ev.step (f := fun _ => some true) (fun k => by rw [laws_eqInt64S.l0, if_neg (by omega)]) (Ev.now _)
  | succ d ih =>
   intro i hi
   refine Ev.step (f := fun k => laws_eqInt64S.l0 k l l ((i + 1 : Nat) : Int)) (fun k => by rw [laws_eqInt64S.l0, if_pos (by omega), if_pos (by omega), if_pos (by omega), if_pos rfl, w64n i (by omega)]) ?_
   exact ih (i + 1) (by omega)
 refine Ev.congr (f := fun k => laws_eqInt64S.l0 k l l ((0 : Nat) : Int)) (fun k => ?_) (loop l.length 0 (by omega))
 simp only [laws_eqInt64S.f, if_true]
 rfl
theorem toForm_ev (a b : Int) (F B H : List Int) (h1 : F.length ≤ 1048576) (h2 : B.length ≤ 1048576) (h3 : H.length ≤ 1048576) : Ev (fun k => laws_toForm.f k a b F B H) (a, b, F, B, H) := by
 unfold laws_toForm.f
 exact Ev.bind (toInt64S_ev F (by omega)) (Ev.bind (toInt64S_ev B (by omega)) (Ev.bind (toInt64S_ev H (by omega)) (Ev.now _)))
theorem szForm_eq (a b : Int) (F B H : List Int) (h1 : F.length ≤ 9223372036854775807) (h2 : B.length ≤ 9223372036854775807) (h3 : H.length ≤ 9223372036854775807) : ∃ r : Int, laws_szForm.f a b F B H 1048576 = some r ∧ (0 ≤ r → F.length ≤ 1048576 ∧ B.length ≤ 1048576 ∧ H.length ≤ 1048576) := by
 have sz : ∀ (l : List Int) (m : Int), l.length ≤ 9223372036854775807 → 0 ≤ m → m ≤ 1048576 → ∃ r : Int, laws_szInt64S.f l m = some r ∧ r ≤ 1048576 ∧ (0 ≤ r → (l.length : Int) ≤ m) := by
  intro l m hl h0 h1
  have hw : wrap64 (m - (l.length : Int)) = m - (l.length : Int) := w64 (by omega) (by omega)
  unfold laws_szInt64S.f
  rw [hw]
  by_cases h : m - (l.length : Int) < 0
  ·exact ⟨-1, if_pos h, by omega, fun z => by omega⟩
  ·exact ⟨_, if_neg h, by omega, fun z => by omega⟩
 unfold laws_szForm.f
 obtain ⟨r1, e1, l1, g1⟩ := sz F 1048576 h1 (by omega) (by omega)
 rw [e1]
 simp only [Option.bind_some]
 by_cases c1 : r1 < 0
 ·exact ⟨-1, if_pos c1, fun z => by omega⟩
 ·rw [if_neg c1]
  obtain ⟨r2, e2, l2, g2⟩ := sz B r1 h2 (by omega) l1
  rw [e2]
  simp only [Option.bind_some]
  by_cases c2 : r2 < 0
  ·exact ⟨-1, if_pos c2, fun z => by omega⟩
  ·rw [if_neg c2]
   obtain ⟨r3, e3, l3, g3⟩ := sz H r2 h3 (by omega) l2
   rw [e3]
   simp only [Option.bind_some]
   by_cases c3 : r3 < 0
   ·exact ⟨-1, if_pos c3, fun z => by omega⟩
   ·rw [if_neg c3]
    exact ⟨r3, rfl, fun z => by have := g1 (by omega); have := g2 (by omega); have := g3 (by omega); omega⟩
theorem eqForm_ev (a b : Int) (F B H : List Int) (l1 : F.length ≤ 1048576) (l2 : B.length ≤ 1048576) (l3 : H.length ≤ 1048576) : Ev (fun k => laws_eqForm.f k a b F B H a b F B H) true := by
 unfold laws_eqForm.f
 first
  | exact Ev_ite_t rfl (Ev_ite_t rfl (Ev.bind (eqInt64S_ev F (by omega)) (Ev_ite_t rfl (Ev.bind (eqInt64S_ev B (by omega)) (Ev_ite_t rfl (eqInt64S_ev H (by omega)))))))
  | exact Ev_ite_t rfl (Ev_ite_t rfl (Ev.bind (eqInt64S_ev F (by omega)) (Ev_ite_t rfl (Ev.bind (eqInt64S_ev B (by omega)) (Ev_ite_t rfl (Ev.bind (eqInt64S_ev H (by omega)) (Ev_ite_t rfl (Ev.now _))))))))
  | exact Ev_ite_t rfl (Ev_ite_t rfl (Ev.bind (eqInt64S_ev F (by omega)) (Ev_ite_t rfl (Ev.bind (eqInt64S_ev B (by omega)) (Ev_ite_t rfl (Ev.bind (eqInt64S_ev H (by omega)) (Ev.now _)))))))
theorem markInt64S_ev (l : List Int) (q : Int) (hl : l.length ≤ 35184372088832) (hq : 0 ≤ q) (hq1 : q ≤ 1000000000000000000) :
  ∃ x : List Int, x.length = l.length ∧ (∀ j : Nat, j < l.length → rd x (j : Int) = q + j) ∧ Ev (fun k => laws_markInt64S.f k l q) (q + l.length, x) := by
 have loop : ∀ (d i : Nat), i + d = l.length → ∀ x : List Int, x.length = l.length → (∀ j : Nat, j < i → rd x (j : Int) = q + j) →
   ∃ y : List Int, y.length = l.length ∧ (∀ j : Nat, j < l.length → rd y (j : Int) = q + j) ∧ Ev (fun k => laws_markInt64S.l0 k x (q + i) (i : Int)) (q + l.length, y) := by
  intro d
  induction d with
  | zero =>
   intro i hi x hx h
   obtain rfl : i = l.length := by omega
   exact ⟨x, hx, h, Ev.step (f := fun _ => some (q + l.length, x)) (fun k => by rw [laws_markInt64S.l0, if_neg (by omega)]) (Ev.now _)⟩
  | succ d ih =>
   intro i hi x hx h
   obtain ⟨y, h1, h2, h3⟩ := ih (i + 1) (by omega) (x.set i (q + i)) (by rw [List.length_set]; exact hx) (fun j hj => by
    rw [rd_set (by omega)]
    by_cases e : i = j
    ·rw [if_pos e, e]
    ·rw [if_neg e]; exact h j (by omega))
   refine ⟨y, h1, h2, Ev.step (fun k => ?_) h3⟩
   have e1 : wrap64 (q + (i : Int) + 1) = q + ((i + 1 : Nat) : Int) := by rw [w64 (by omega) (by omega)]; omega
   rw [laws_markInt64S.l0, if_pos (by omega), if_pos (by omega), w64n i (by omega), toNat_cast, e1]
 obtain ⟨y, h1, h2, h3⟩ := loop l.length 0 (by omega) l rfl (fun j hj => by omega)
 refine ⟨y, h1, h2, Ev.congr (fun k => ?_) h3⟩
 simp only [laws_markInt64S.f]
 rw [show q + ((0 : Nat) : Int) = q by omega]
 rfl
theorem heldInt64S_ev (x : List Int) (n : Nat) (q : Int) (hx : x.length = n) (h : ∀ j : Nat, j < n → rd x (j : Int) = q + j) (hl : n ≤ 35184372088832) (hq : 0 ≤ q) (hq1 : q ≤ 1000000000000000000) :
  Ev (fun k => laws_heldInt64S.f k x q) (q + n) := by
 have loop : ∀ (d i : Nat), i + d = n → Ev (fun k => laws_heldInt64S.l0 k x (q + i) (i : Int)) (q + n) := by
  intro d
  induction d with
  | zero =>
   intro i hi
   obtain rfl : i = n := by omega
   exact Ev.step (f := fun _ => some (q + (i : Int))) (fun k => by rw [laws_heldInt64S.l0, if_neg (by omega)]) (Ev.now _)
  | succ d ih =>
   intro i hi
   refine Ev.step (fun k => ?_) (ih (i + 1) (by omega))
   have e1 : wrap64 (q + (i : Int) + 1) = q + ((i + 1 : Nat) : Int) := by rw [w64 (by omega) (by omega)]; omega
   rw [laws_heldInt64S.l0, if_pos (by omega), if_pos (by omega), if_pos (h i (by omega)), w64n i (by omega), e1]
 refine Ev.congr (fun k => ?_) (loop n 0 (by omega))
 simp only [laws_heldInt64S.f]
 rw [show q + ((0 : Nat) : Int) = q by omega]
 rfl
theorem markForm_ev0 (a b : Int) (F B H : List Int) (l1 : F.length ≤ 1048576) (l2 : B.length ≤ 1048576) (l3 : H.length ≤ 1048576) : ∃ (q : Int) (x y z : List Int), 0 ≤ q ∧ Ev (fun k => laws_markForm.f k a b F B H 1) (q, x, y, z) := by
 obtain ⟨x, x1, x2, x3⟩ := markInt64S_ev F 1 (by omega) (by omega) (by omega)
 obtain ⟨y, y1, y2, y3⟩ := markInt64S_ev B (1 + F.length) (by omega) (by omega) (by omega)
 obtain ⟨z, z1, z2, z3⟩ := markInt64S_ev H (1 + F.length + B.length) (by omega) (by omega) (by omega)
 refine ⟨1 + F.length + B.length + H.length, x, y, z, by omega, ?_⟩
 unfold laws_markForm.f
 exact Ev.bind x3 (Ev.bind y3 (Ev.bind z3 (Ev.now _)))
theorem FnExactReadForm : laws_FnExactReadForm.Pure := by
 intro a b F B H s ha hb h1 _ h2 _ h3 _ _
 apply Ev.rounds
 unfold laws_FnExactReadForm.f
 have hm : maxLen = 9223372036854775807 := by decide
 rw [hm] at h1 h2 h3
 by_cases hs : (s.size : Int) > 1048576
 ·exact Ev_ite_t hs (Ev.now _)
 refine Ev_ite_f hs ?_
 obtain ⟨r, r1, r2⟩ := szForm_eq a b F B H h1 h2 h3
 rw [r1]
 refine Ev.bind (Ev.now _) ?_
 by_cases hr : r < 0
 ·exact Ev_ite_t hr (Ev.now _)
 ·obtain ⟨l1, l2, l3⟩ := r2 (by omega)
  have ht := toForm_ev a b F B H l1 l2 l3
  have hme := eqForm_ev a b F B H l1 l2 l3
  obtain ⟨⟨q, c⟩, v1, v2, v3⟩ := readForm_full a b F B H s l3 (by omega)
  have hq : q.length ≤ 1000 := v3
  obtain ⟨q', x', y', z', q0', n1⟩ := markForm_ev0 a b F B H l1 l2 l3
  obtain ⟨x, x1, x2, x3⟩ := markInt64S_ev q 1 (by omega) (by omega) (by omega)
  have hh := heldInt64S_ev x q.length 1 x1 x2 (by omega) (by omega) (by omega)
  have he := eqInt64S_ev q (by omega)
  have hpos : ¬ (1 + (q.length : Int) < 0) := by omega
  have hneg : ¬ q' < 0 := by omega
  refine Ev_ite_f hr (Ev.bind ht (Ev.bind v1 (Ev.bind ht (Ev.bind v2 (Ev.bind he (Ev_ite_t rfl ?_))))))
  refine Ev.step (fun k => by rw [laws_FnExactReadForm.j0, if_neg (by simp)]) ?_
  refine Ev.bind ht (Ev.bind hme (Ev_ite_t rfl (Ev.bind n1 (Ev_ite_f hneg (Ev.bind he (Ev_ite_t rfl ?_))))))
  refine Ev.step (fun k => by rw [laws_FnExactReadForm.j1, if_neg (by simp)]) ?_
  refine Ev.bind x3 (Ev.bind hh (Ev_ite_f hpos (Ev_ite_t rfl (Ev.bind ht (Ev.bind v2 (Ev.bind he (Ev_ite_t rfl ?_)))))))
  refine Ev.step (fun k => by rw [laws_FnExactReadForm.j2, if_neg (by simp)]) ?_
  exact Ev.bind hh (Ev_ite_f hpos (Ev_ite_t rfl (Ev.now _)))

end Go.Proofs.YtkpidjmhdagkfaaGreatDoor.Pure
-- halved
