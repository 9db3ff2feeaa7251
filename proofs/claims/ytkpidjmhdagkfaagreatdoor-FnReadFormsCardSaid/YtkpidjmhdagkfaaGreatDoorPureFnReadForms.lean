/- The pure statement of FnReadForms: for every input that the row lets in, the law's Lean function answers true; no further condition. -/
import Derived.Test.YtkpidjmhdagkfaaGreatDoorQFnReadFormsx0
import Derived.Test.YtkpidjmhdagkfaaGreatDoorQFnReadFormsx1
import Derived.Test.YtkpidjmhdagkfaaGreatDoorQFnReadFormsx2
import Derived.Test.YtkpidjmhdagkfaaGreatDoorQFnReadFormsx3
import Derived.Test.YtkpidjmhdagkfaaGreatDoorQFnReadFormsx4
import Derived.Test.YtkpidjmhdagkfaaGreatDoorQFnReadFormsx5
import Derived.Test.YtkpidjmhdagkfaaGreatDoorQFnReadFormsx6
import Derived.Test.YtkpidjmhdagkfaaGreatDoorQFnReadFormsx7
import Derived.Test.YtkpidjmhdagkfaaGreatDoorQFnReadFormsx8
import Derived.Test.YtkpidjmhdagkfaaGreatDoorQFnReadFormsx9
import Derived.Test.YtkpidjmhdagkfaaGreatDoorQFnReadFormsx10
import Derived.Test.YtkpidjmhdagkfaaGreatDoorQFnReadFormsx11
import Derived.Test.YtkpidjmhdagkfaaGreatDoorQFnReadFormsx12
import Derived.Test.YtkpidjmhdagkfaaGreatDoorQFnReadFormsx13
import Derived.Test.YtkpidjmhdagkfaaGreatDoorQFnReadFormsx14
set_option linter.unusedVariables false
set_option linter.unusedSimpArgs false
namespace Go.Proofs.YtkpidjmhdagkfaaGreatDoor.Pure
open Go.RowKit Go.Proofs.YtkpidjmhdagkfaaGreatDoor.QFnReadForms Go.Proofs.YtkpidjmhdagkfaaGreatDoorW.PrintWords Go.Proofs.YtkpidjmhdagkfaaGreatDoorW.PrintLast
theorem w64 {x : Int} (h0 : -9223372036854775808 ≤ x) (h1 : x ≤ 9223372036854775807) : wrap64 x = x := by unfold wrap64; omega
theorem wf8 {x : Int} (h : (Lit.int .u8 x).wf = true) : 0 ≤ x ∧ x ≤ 255 := by
 have h' : (decide (IntKind.u8.min ≤ x) && decide (x ≤ IntKind.u8.max)) = true := h
 simp only [Bool.and_eq_true, decide_eq_true_eq] at h'
 exact h'
theorem iP {xs : List Int} {i : Nat} (h : i < xs.length) : rd xs (i : Int) = xs[i] := by
 simp [rd, List.getD_eq_getElem?_getD, h]
theorem mG {xs : List Int} {i : Nat} (h : i < xs.length) : rd xs (i : Int) ∈ xs := by rw [iP h]; exact List.getElem_mem h
theorem lv {xs : List Int} {i : Nat} (h : i < xs.length) : xs.drop i = rd xs (i : Int) :: xs.drop (i + 1) := by
 rw [iP h]; exact List.drop_eq_getElem_cons h
theorem bC {α : Type} {c : Prop} [Decidable c] {f g : Nat → Option α} {r : α} (h : c) (k : Ev f r) : Ev (fun n => if c then f n else g n) r :=
 Ev.congr (fun _ => if_pos h) k
theorem dW {α : Type} {c : Prop} [Decidable c] {f g : Nat → Option α} {r : α} (h : ¬ c) (k : Ev g r) : Ev (fun n => if c then f n else g n) r :=
 Ev.congr (fun _ => if_neg h) k
theorem jH (i : Nat) (h : i < 9223372036854775807) : wrap64 ((i : Int) + 1) = ((i + 1 : Nat) : Int) := by
 rw [w64 (by omega) (by omega)]; rfl
theorem oH (n a b : Int) : iF.f n a b = some (decide (a ≤ n ∧ n ≤ b)) := by
 unfold iF.f
 by_cases h : n ≥ a
 ·rw [if_pos h]; simp [show a ≤ n from h]
 ·rw [if_neg h]; simp [show ¬ a ≤ n from h]
theorem nV (n a b : Int) : gz.f n a b = some (decide (a ≤ n ∧ n ≤ b)) := by
 unfold gz.f
 by_cases h : a ≤ n
 ·rw [if_pos h]; simp [h]
 ·rw [if_neg h]; simp [h]
theorem xO (l : List Int) (m lo hi : Int) (hl : l.length ≤ 35184372088832) (b : Bool) (hb : b = true ↔ (l.length : Int) ≤ m ∧ ∀ x ∈ l, lo ≤ x ∧ x ≤ hi) : Ev (fun k => cK.f k l m lo hi) b := by
 have loop : ∀ (d i : Nat), i + d = l.length → ∀ b : Bool, (b = true ↔ (l.length : Int) ≤ m ∧ ∀ x ∈ l.drop i, lo ≤ x ∧ x ≤ hi) → Ev (fun k => cK.l0 k l m lo hi (i : Int)) b := by
  intro d
  induction d with
  | zero =>
   intro i hi' b hb
   have e : b = decide ((l.length : Int) ≤ m) := by
    rw [Bool.eq_iff_iff, hb, decide_eq_true_iff, show l.drop i = [] from List.drop_of_length_le (by omega)]
    exact ⟨fun h => h.1, fun h => ⟨h, fun x hx => by simp at hx⟩⟩
   rw [e]
   exact Ev.step (f := fun _ => some (decide ((l.length : Int) ≤ m))) (fun k => by rw [cK.l0, if_neg (by omega)]) (Ev.now _)
  | succ d ih =>
   intro i hi' b hb
   refine Ev.step (f := fun k => if decide (lo ≤ rd l (i : Int) ∧ rd l (i : Int) ≤ hi) = true then cK.l0 k l m lo hi ((i + 1 : Nat) : Int) else some false) (fun k => by rw [cK.l0, if_pos (by omega), if_pos (by omega), oH, jH i (by omega)]; rfl) ?_
   rw [lv (xs := l) (i := i) (by omega)] at hb
   simp only [List.mem_cons, forall_eq_or_imp] at hb
   by_cases h : lo ≤ rd l (i : Int) ∧ rd l (i : Int) ≤ hi
   ·refine bC (decide_eq_true h) (ih (i + 1) (by omega) b ?_)
    rw [hb]
    exact ⟨fun x => ⟨x.1, x.2.2⟩, fun x => ⟨x.1, h, x.2⟩⟩
   ·have e : b = false := by
     rw [Bool.eq_false_iff]; intro hbt
     exact h (hb.1 hbt).2.1
    rw [e]
    exact dW (by rw [decide_eq_true_iff]; exact h) (Ev.now _)
 have := loop l.length 0 (by omega) b (by rw [List.drop_zero]; exact hb)
 exact Ev.congr (fun k => rfl) this
theorem yt (l : List Int) (lo hi : Int) : gy.f l lo hi = some (decide (∀ x ∈ l, lo ≤ x ∧ x ≤ hi)) := by
 unfold gy.f
 congr 1
 rw [Bool.eq_iff_iff, decide_eq_true_iff, Bool.not_eq_true', List.any_eq_false]
 unfold iU
 constructor
 ·intro h x hx; simpa using h x hx
 ·intro h x hx; simpa using h x hx
theorem xA (l : List Int) (x : Int) (hl : l.length ≤ 35184372088832) : Ev (fun k => dI.f k l x) (decide (x ∈ l)) := by
 have loop : ∀ (d i : Nat), i + d = l.length → Ev (fun k => dI.l0 k l x (i : Int)) (decide (x ∈ l.drop i)) := by
  intro d
  induction d with
  | zero =>
   intro i hi
   have e : decide (x ∈ l.drop i) = false := by rw [List.drop_of_length_le (by omega)]; simp
   rw [e]
   exact Ev.step (f := fun _ => some false) (fun k => by rw [dI.l0, if_neg (by omega)]) (Ev.now _)
  | succ d ih =>
   intro i hi
   by_cases e : rd l (i : Int) = x
   ·have e1 : decide (x ∈ l.drop i) = true := by rw [lv (by omega)]; simp [e]
    rw [e1]
    exact Ev.step (f := fun _ => some true) (fun k => by rw [dI.l0, if_pos (by omega), if_pos (by omega), if_pos e]) (Ev.now _)
   ·have e1 : decide (x ∈ l.drop i) = decide (x ∈ l.drop (i + 1)) := by rw [lv (by omega)]; simp [Ne.symm e]
    rw [e1]
    exact Ev.step (fun k => by rw [dI.l0, if_pos (by omega), if_pos (by omega), if_neg e, jH i (by omega)]) (ih (i + 1) (by omega))
 have := loop l.length 0 (by omega)
 rw [List.drop_zero] at this
 exact Ev.congr (fun k => rfl) this
theorem za (a : Int) : (∃ j : Nat, j ≤ 3 ∧ a = ((2 ^ j : Nat) : Int) ∧ bq.f a = some ((j : Int), true) ∧ fq.f a = some true) ∨ (bq.f a = some (0, false) ∧ fq.f a = some false) := by
 by_cases h1 : a = 1
 ·subst h1; exact .inl ⟨0, by decide, by decide, by decide +kernel, by decide +kernel⟩
 by_cases h2 : a = 2
 ·subst h2; exact .inl ⟨1, by decide, by decide, by decide +kernel, by decide +kernel⟩
 by_cases h4 : a = 4
 ·subst h4; exact .inl ⟨2, by decide, by decide, by decide +kernel, by decide +kernel⟩
 by_cases h8 : a = 8
 ·subst h8; exact .inl ⟨3, by decide, by decide, by decide +kernel, by decide +kernel⟩
 ·refine .inr ⟨?_, ?_⟩
  ·unfold bq.f
   rw [if_neg h1, if_neg h2, if_neg h4, if_neg h8]
  ·unfold fq.f
   rw [if_neg h1, if_neg h2, if_neg h4, show (a == 8) = false from beq_false_of_ne h8]
theorem Bl (a b : Int) : (∃ i j : Nat, i ≤ 3 ∧ j ≤ 3 ∧ a = ((2 ^ i : Nat) : Int) ∧ b = ((2 ^ j : Nat) : Int) ∧ dE.f a b = some true ∧ dP.f a b = some true) ∨ (dE.f a b = some false ∧ dP.f a b = some false) := by
 unfold dE.f dP.f
 rcases za a with ⟨i, i1, i2, i3, i4⟩ | ⟨i3, i4⟩
 ·rcases za b with ⟨j, j1, j2, j3, j4⟩ | ⟨j3, j4⟩
  ·exact .inl ⟨i, j, i1, j1, i2, j2, by rw [i3, j3]; rfl, by rw [i4, j4]; rfl⟩
  ·exact .inr ⟨by rw [i3, j3]; rfl, by rw [i4, j4]; rfl⟩
 ·refine .inr ⟨?_, by rw [i4]; rfl⟩
  rw [i3]
  rcases za b with ⟨j, j1, j2, j3, j4⟩ | ⟨j3, j4⟩
  ·rw [j3]; rfl
  ·rw [j3]; rfl
theorem xJ {i j : Nat} (hi : i ≤ 3) (hj : j ≤ 3) : dP.f ((2 ^ i : Nat) : Int) ((2 ^ j : Nat) : Int) = some true := by
 have h : ∀ i j : Fin 4, dP.f ((2 ^ i.val : Nat) : Int) ((2 ^ j.val : Nat) : Int) = some true := by decide +kernel
 exact h ⟨i, by omega⟩ ⟨j, by omega⟩
theorem vY {b c : List Int} (hb : b.length ≤ 1000) (hc : c.length ≤ 1000) : Ev (fun k => au.f k [b, c]) (b ++ c) := by
 have r0 : lC [b, c] 0 = b := rfl
 have r1 : lC [b, c] 1 = c := rfl
 have l2 : (([b, c] : List (List Int)).length : Int) = 2 := rfl
 have g0 : (0 : Int) < (([b, c] : List (List Int)).length : Int) := by rw [l2]; omega
 have g1 : (1 : Int) < (([b, c] : List (List Int)).length : Int) := by rw [l2]; omega
 have w1 : wrap64 (0 + 1) = 1 := by rw [w64 (by omega) (by omega)]; rfl
 have w2 : wrap64 (1 + 1) = 2 := by rw [w64 (by omega) (by omega)]; rfl
 have s1 : wrap64 (0 + (b.length : Int)) = (b.length : Int) := by rw [w64 (by omega) (by omega)]; omega
 have s2 : wrap64 ((b.length : Int) + (c.length : Int)) = ((b.length + c.length : Nat) : Int) := by rw [w64 (by omega) (by omega)]; omega
 have hg : fB.f ([] : List Int) ((b.length + c.length : Nat) : Int) = some [] := by
  unfold fB.f
  rw [if_pos rfl, if_pos (by omega), if_pos (by omega)]
 have a1 : ([] : List Int).length + b.length < 17592186044416 := by rw [List.length_nil]; omega
 have a2 : b.length + c.length < 17592186044416 := by omega
 generalize ([b, c] : List (List Int)) = G at r0 r1 l2 g0 g1
 refine Ev.step (f := fun k => au.l0 k G (b.length : Int) G 2 1) (fun k => ?_) ?_
 ·show au.l0 (k + 1) G 0 G (G.length : Int) 0 = _
  rw [l2, au.l0, r0, s1, w1, if_pos (by decide), if_pos (by decide), if_pos g0, if_neg (by omega)]
 refine Ev.step (f := fun k => au.l0 k G ((b.length + c.length : Nat) : Int) G 2 2) (fun k => ?_) ?_
 ·rw [au.l0, r1, s2, w2, if_pos (by decide), if_pos (by decide), if_pos g1, if_neg (by omega)]
 refine Ev.step (f := fun k => au.l1 k [] G 2 0) (fun k => ?_) ?_
 ·rw [au.l0, if_neg (by decide), hg, l2]; rfl
 refine Ev.step (f := fun k => au.l1 k b G 2 1) (fun k => ?_) ?_
 ·rw [au.l1, r0, w1, if_pos (by decide), if_pos (by decide), if_pos g0, if_pos a1, List.nil_append]
 refine Ev.step (f := fun k => au.l1 k (b ++ c) G 2 2) (fun k => ?_) ?_
 ·rw [au.l1, r1, w2, if_pos (by decide), if_pos (by decide), if_pos g1, if_pos a2]
 exact Ev.step (f := fun _ => some (b ++ c)) (fun k => by rw [au.l1, if_neg (by decide)]) (Ev.now _)
def Run (all : List Int) (first : Int) : Prop := (∀ x ∈ all, first ≤ x ∧ x ≤ first + (all.length : Int) - 1) ∧ all.Nodup
theorem xK (l : List Int) : (l.mergeSort (fun x y => decide (x ≤ y))).Pairwise (fun x y => x ≤ y) := by
 have h := List.pairwise_mergeSort (le := fun x y : Int => decide (x ≤ y)) (fun a b c h1 h2 => by simp only [decide_eq_true_iff] at *; omega) (fun a b => by simp only [Bool.or_eq_true, decide_eq_true_iff]; omega) l
 exact h.imp (fun h => by simpa using h)
theorem wG {all s : List Int} {first : Int} (hp : s.Perm all) (hs : s.Pairwise (fun x y => x ≤ y)) (h : Run all first) : ∀ i (hi : i < s.length), s[i] = first + (i : Int) := by
 have hn : s.Nodup := hp.nodup_iff.2 h.2
 have hl : s.length = all.length := hp.length_eq
 have hb : ∀ x ∈ s, first ≤ x ∧ x ≤ first + (s.length : Int) - 1 := fun x hx => by rw [hl]; exact h.1 x (hp.mem_iff.1 hx)
 have hlt : s.Pairwise (fun x y => x < y) := by
  have := hs.and hn
  exact this.imp (fun ⟨a, b⟩ => by omega)
 have step : ∀ i (hi : i + 1 < s.length), s[i] + 1 ≤ s[i + 1] := fun i hi => by
  have := List.pairwise_iff_getElem.1 hlt i (i + 1) (by omega) hi (by omega)
  omega
 have low : ∀ i (hi : i < s.length), first + (i : Int) ≤ s[i] := by
  intro i
  induction i with
  | zero => intro hi; have := (hb _ (List.getElem_mem hi)).1; omega
  | succ i ih => intro hi; have := ih (by omega); have := step i hi; omega
 have up : ∀ d i (hi : i < s.length), i + d + 1 = s.length → s[i] ≤ first + (i : Int) := by
  intro d
  induction d with
  | zero => intro i hi he; have := (hb _ (List.getElem_mem hi)).2; omega
  | succ d ih => intro i hi he; have := ih (i + 1) (by omega) (by omega); have := step i (by omega); omega
 intro i hi
 have h1 := low i hi
 have h2 := up (s.length - 1 - i) i hi (by omega)
 omega
theorem wK {all s : List Int} {first : Int} (hp : s.Perm all) (h : ∀ i (hi : i < s.length), s[i] = first + (i : Int)) : Run all first := by
 have hl : s.length = all.length := hp.length_eq
 refine ⟨fun x hx => ?_, ?_⟩
 ·obtain ⟨i, hi, e⟩ := List.getElem_of_mem (hp.mem_iff.2 hx)
  have := h i hi
  omega
 ·refine hp.nodup_iff.1 ?_
  rw [List.nodup_iff_pairwise_ne]
  refine List.pairwise_iff_getElem.2 (fun i j hi hj hij => ?_)
  rw [h i hi, h j hj]
  omega
theorem wY (a b : Int) : mn a b ≤ a ∧ mn a b ≤ b ∧ (mn a b = a ∨ mn a b = b) := by unfold mn; split <;> omega
theorem uX (a b : Int) (F B H : List Int) (hl : F.length = B.length) (h0 : 0 < F.length) (h1 : F.length ≤ 1000) : ∃ m, Ev (fun k => bT.f k a b F B H) m ∧ m ∈ F ++ B ∧ ∀ x ∈ F ++ B, m ≤ x := by
 have loop : ∀ (d i : Nat), i + d = F.length → ∀ m : Int, m ∈ F ++ B → (∀ j (hj : j < F.length), j < i → m ≤ F[j] ∧ m ≤ B[j]) → ∃ r, Ev (fun k => bT.l0 k m (i : Int) a b F B H) r ∧ r ∈ F ++ B ∧ ∀ j (hj : j < F.length), r ≤ F[j] ∧ r ≤ B[j] := by
  intro d
  induction d with
  | zero =>
   intro i hi m hm hj
   exact ⟨m, Ev.step (f := fun _ => some m) (fun k => by rw [bT.l0, if_neg (by omega)]) (Ev.now _), hm, fun j hj' => hj j hj' (by omega)⟩
  | succ d ih =>
   intro i hi m hm hj
   have hF : i < F.length := by omega
   have hB : i < B.length := by omega
   obtain ⟨p1, p2, p3⟩ := wY F[i] B[i]
   obtain ⟨q1, q2, q3⟩ := wY m (mn F[i] B[i])
   obtain ⟨r, r1, r2, r3⟩ := ih (i + 1) (by omega) (mn m (mn F[i] B[i])) (by
    rcases q3 with e | e
    ·rw [e]; exact hm
    ·rw [e]
     rcases p3 with e | e
     ·rw [e]; exact List.mem_append.2 (.inl (List.getElem_mem hF))
     ·rw [e]; exact List.mem_append.2 (.inr (List.getElem_mem hB))) (fun j hj' hji => by
    by_cases e : j = i
    ·subst e; omega
    ·have := hj j hj' (by omega); omega)
   refine ⟨r, Ev.step (fun k => ?_) r1, r2, r3⟩
   rw [bT.l0, if_pos (by omega), if_pos (by omega), if_pos (by omega), iP hF, iP hB, jH i (by omega)]
 have e0 : rd F (0 : Int) = F[0] := iP (i := 0) h0
 obtain ⟨r, r1, r2, r3⟩ := loop F.length 0 (by omega) F[0] (List.mem_append.2 (.inl (List.getElem_mem h0))) (fun j _ hj => by omega)
 refine ⟨r, ?_, r2, fun x hx => ?_⟩
 ·unfold bT.f
  refine bC (by omega) ?_
  rw [e0]
  exact r1
 ·rcases List.mem_append.1 hx with hx | hx
  ·obtain ⟨j, hj, e⟩ := List.getElem_of_mem hx
   have := (r3 j hj).1
   omega
  ·obtain ⟨j, hj, e⟩ := List.getElem_of_mem hx
   have := (r3 j (by omega)).2
   omega
theorem si (n : Int) (all : List Int) (first : Int) (hl : all.length ≤ 1000) : ∀ (d i : Nat), i + d = all.length → ∃ v : Bool, Ev (fun k => aM.l0 k n all first (i : Int)) v ∧ (v = true ↔ (∀ j (hj : j < all.length), i ≤ j → first ≤ all[j] ∧ all[j] ≤ wrap64 (wrap64 (first + wrap64 (2 * n)) - 1) ∧ all[j] ∉ all.take j) ∧ 1 ≤ first ∧ first ≤ 1000000000) := by
 intro d
 induction d with
 | zero =>
  intro i hi
  refine ⟨decide (1 ≤ first ∧ first ≤ 1000000000), ?_, ?_⟩
  ·by_cases h1 : first ≥ 1
   ·refine Ev.step (f := fun _ => some (decide (first ≤ 1000000000))) (fun k => by rw [aM.l0, if_neg (by omega), if_pos h1]) ?_
    rw [show decide (1 ≤ first ∧ first ≤ 1000000000) = decide (first ≤ 1000000000) by simp only [decide_eq_decide]; omega]
    exact Ev.now _
   ·refine Ev.step (f := fun _ => some false) (fun k => by rw [aM.l0, if_neg (by omega), if_neg h1]) ?_
    rw [decide_eq_false (by omega)]
    exact Ev.now _
  ·rw [decide_eq_true_iff]
   exact ⟨fun h => ⟨fun j hj hij => by omega, h⟩, fun h => h.2⟩
 | succ d ih =>
  intro i hi
  have hil : i < all.length := by omega
  obtain ⟨v, v1, v2⟩ := ih (i + 1) (by omega)
  have hh := xA (all.take i) all[i] (by rw [List.length_take]; omega)
  by_cases c1 : first ≤ all[i] ∧ all[i] ≤ wrap64 (wrap64 (first + wrap64 (2 * n)) - 1)
  ·by_cases c2 : all[i] ∈ all.take i
   ·refine ⟨false, ?_, ?_⟩
    ·refine Ev.step (fun k => by rw [aM.l0, if_pos (by omega), if_pos (by omega), iP hil, oH]) ?_
     refine Ev.bind (Ev.now _) (bC (decide_eq_true c1) (bC (by omega) ?_))
     rw [Int.toNat_natCast]
     exact Ev.bind hh (bC (decide_eq_true c2) (Ev.now _))
    ·exact ⟨(fun z => by cases z), fun h => ((h.1 i hil (Nat.le_refl _)).2.2 c2).elim⟩
   ·refine ⟨v, ?_, ?_⟩
    ·refine Ev.step (fun k => by rw [aM.l0, if_pos (by omega), if_pos (by omega), iP hil, oH]) ?_
     refine Ev.bind (Ev.now _) (bC (decide_eq_true c1) (bC (by omega) ?_))
     rw [Int.toNat_natCast]
     refine Ev.bind hh (dW (by simpa using c2) ?_)
     rw [jH i (by omega)]
     exact v1
    ·rw [v2]
     constructor
     ·rintro ⟨g, h⟩
      refine ⟨fun j hj hij => ?_, h⟩
      by_cases e : j = i
      ·subst e; exact ⟨c1.1, c1.2, c2⟩
      ·exact g j hj (by omega)
     ·rintro ⟨g, h⟩
      exact ⟨fun j hj hij => g j hj (by omega), h⟩
  ·refine ⟨false, ?_, ?_⟩
   ·refine Ev.step (fun k => by rw [aM.l0, if_pos (by omega), if_pos (by omega), iP hil, oH]) ?_
    exact Ev.bind (Ev.now _) (dW (by simpa using c1) (Ev.now _))
   ·exact ⟨(fun z => by cases z), fun h => (c1 ⟨(h.1 i hil (Nat.le_refl _)).1, (h.1 i hil (Nat.le_refl _)).2.1⟩).elim⟩
theorem rV (s : List Int) (hl : s.length ≤ 1000) (h0 : 0 < s.length) : ∀ (d i : Nat), i + d = s.length → ∃ v : Bool, Ev (fun k => bv.l0 k s s (s.length : Int) (i : Int)) v ∧ (v = true ↔ ∀ j (hj : j < s.length), i ≤ j → (1 ≤ s[0] ∧ s[0] ≤ 1000000000) ∧ s[j] = wrap64 (s[0] + (j : Int))) := by
 intro d
 have e0 : rd s (0 : Int) = s[0] := iP (i := 0) h0
 induction d with
 | zero =>
  intro i hi
  exact ⟨true, Ev.step (f := fun _ => some true) (fun k => by rw [bv.l0, if_neg (by omega)]) (Ev.now _), fun _ j hj hij => by omega, fun _ => rfl⟩
 | succ d ih =>
  intro i hi
  have hil : i < s.length := by omega
  obtain ⟨v, v1, v2⟩ := ih (i + 1) (by omega)
  by_cases c1 : 1 ≤ s[0] ∧ s[0] ≤ 1000000000
  ·by_cases c2 : s[i] = wrap64 (s[0] + (i : Int))
   ·refine ⟨v, ?_, ?_⟩
    ·refine Ev.step (fun k => by rw [bv.l0, if_pos (by omega), if_pos (by omega), if_pos (by omega), if_pos (by omega), e0, nV, iP hil]) ?_
     refine Ev.bind (Ev.now _) (bC (decide_eq_true c1) (bC c2 ?_))
     rw [jH i (by omega)]
     exact v1
    ·rw [v2]
     constructor
     ·intro g j hj hij
      by_cases e : j = i
      ·subst e; exact ⟨c1, c2⟩
      ·exact g j hj (by omega)
     ·intro g j hj hij
      exact g j hj (by omega)
   ·refine ⟨false, ?_, ?_⟩
    ·refine Ev.step (fun k => by rw [bv.l0, if_pos (by omega), if_pos (by omega), if_pos (by omega), if_pos (by omega), e0, nV, iP hil]) ?_
     exact Ev.bind (Ev.now _) (bC (decide_eq_true c1) (dW c2 (Ev.now _)))
    ·exact ⟨(fun z => by cases z), fun g => (c2 (g i hil (Nat.le_refl _)).2).elim⟩
  ·refine ⟨false, ?_, ?_⟩
   ·refine Ev.step (fun k => by rw [bv.l0, if_pos (by omega), if_pos (by omega), if_pos (by omega), if_pos (by omega), e0, nV, iP hil]) ?_
    exact Ev.bind (Ev.now _) (dW (by simpa using c1) (Ev.now _))
   ·exact ⟨(fun z => by cases z), fun g => (c1 (g i hil (Nat.le_refl _)).1).elim⟩
def jS (a b : Int) (F B H : List Int) : Prop := ∃ i j : Nat, i ≤ 3 ∧ j ≤ 3 ∧ a = ((2 ^ i : Nat) : Int) ∧ b = ((2 ^ j : Nat) : Int) ∧ F.length = 2 ^ (i + j) ∧ B.length = 2 ^ (i + j) ∧ H.length = 2 ^ (i + j) ∧ (∀ x ∈ H, 0 ≤ x ∧ x ≤ 1) ∧ ∃ first, 1 ≤ first ∧ first ≤ 1000000000 ∧ first ∈ F ++ B ∧ Run (F ++ B) first
theorem yT {i j : Nat} (h : ((2 ^ i : Nat) : Int) = ((2 ^ j : Nat) : Int)) : i = j := (Nat.pow_right_inj (by omega : 1 < 2)).1 (Int.ofNat.inj h)
theorem qY (l : List Int) : l.Nodup ↔ ∀ j (hj : j < l.length), l[j] ∉ l.take j := by
 rw [List.nodup_iff_pairwise_ne, List.pairwise_iff_getElem]
 constructor
 ·intro h j hj hm
  obtain ⟨i, hi, e⟩ := List.getElem_of_mem hm
  rw [List.length_take] at hi
  rw [List.getElem_take] at e
  exact h i j (by omega) hj (by omega) e
 ·intro h i j hi hj hij e
  refine h j hj ?_
  rw [← e]
  have : (l.take j)[i]'(by rw [List.length_take]; omega) = l[i] := List.getElem_take
  rw [← this]
  exact List.getElem_mem _
theorem xF (F B : List Int) (a b : Int) (H : List Int) (n : Nat) (hF : F.length = n) (hB : B.length = n) (h0 : 0 < n) (h1 : n ≤ 64) : ∃ v : Bool, Ev (fun k => aM.j0 k (n : Int) false a b F B H) v ∧ Ev (fun k => bv.j0 k false a b F B H) v ∧ (v = true ↔ ∃ first, 1 ≤ first ∧ first ≤ 1000000000 ∧ first ∈ F ++ B ∧ Run (F ++ B) first) := by
 have hlen : (F ++ B).length = 2 * n := by rw [List.length_append]; omega
 obtain ⟨m, m1, m2, m3⟩ := uX a b F B H (by omega) (by omega) (by omega)
 obtain ⟨v, v1, v2⟩ := si (n : Int) (F ++ B) m (by omega) (F ++ B).length 0 (by omega)
 have hp : ((F ++ B).mergeSort (fun x y => decide (x ≤ y))).Perm (F ++ B) := List.mergeSort_perm _ _
 have hs := xK (F ++ B)
 have hsl : ((F ++ B).mergeSort (fun x y => decide (x ≤ y))).length = 2 * n := by rw [hp.length_eq, hlen]
 obtain ⟨s, hse⟩ : ∃ s, (F ++ B).mergeSort (fun x y => decide (x ≤ y)) = s := ⟨_, rfl⟩
 rw [hse] at hp hs hsl
 obtain ⟨u, u1, u2⟩ := rV s (by omega) (by omega) s.length 0 (by omega)
 have hs0 : s[0]'(by omega) = m := by
  have g1 := m3 _ (hp.mem_iff.1 (List.getElem_mem (l := s) (n := 0) (by omega)))
  obtain ⟨q, hq, e⟩ := List.getElem_of_mem (hp.mem_iff.2 m2)
  have g2 : s[0]'(by omega) ≤ s[q] := by
   rcases Nat.eq_zero_or_pos q with z | z
   ·subst z; omega
   ·exact List.pairwise_iff_getElem.1 hs 0 q (by omega) hq z
  omega
 have main : (1 ≤ m ∧ m ≤ 1000000000 ∧ Run (F ++ B) m) ↔ ∃ first, 1 ≤ first ∧ first ≤ 1000000000 ∧ first ∈ F ++ B ∧ Run (F ++ B) first := by
  constructor
  ·rintro ⟨x, y, z⟩; exact ⟨m, x, y, m2, z⟩
  ·rintro ⟨f, x, y, z, r⟩
   have g1 := m3 f z
   have g2 := (r.1 m m2).1
   obtain rfl : f = m := by omega
   exact ⟨x, y, r⟩
 have hv : v = true ↔ (1 ≤ m ∧ m ≤ 1000000000 ∧ Run (F ++ B) m) := by
  rw [v2]
  have hw : 1 ≤ m → m ≤ 1000000000 → wrap64 (wrap64 (m + wrap64 (2 * (n : Int))) - 1) = m + (((F ++ B).length : Nat) : Int) - 1 := fun g1 g2 => by
   rw [w64 (x := 2 * (n : Int)) (by omega) (by omega), w64 (x := m + 2 * (n : Int)) (by omega) (by omega), w64 (by omega) (by omega), hlen]
   omega
  constructor
  ·rintro ⟨g, g1, g2⟩
   rw [hw g1 g2] at g
   refine ⟨g1, g2, fun x hx => ?_, (qY _).2 (fun j hj => (g j hj (Nat.zero_le _)).2.2)⟩
   obtain ⟨j, hj, e⟩ := List.getElem_of_mem hx
   have := g j hj (Nat.zero_le _)
   exact ⟨by omega, by omega⟩
  ·rintro ⟨g1, g2, g3, g4⟩
   rw [hw g1 g2]
   exact ⟨fun j hj _ => ⟨(g3 _ (List.getElem_mem hj)).1, (g3 _ (List.getElem_mem hj)).2, (qY _).1 g4 j hj⟩, g1, g2⟩
 have hu : u = true ↔ (1 ≤ m ∧ m ≤ 1000000000 ∧ Run (F ++ B) m) := by
  rw [u2]
  constructor
  ·intro g
   have g0 := (g 0 (by omega) (Nat.le_refl _)).1
   rw [hs0] at g0
   refine ⟨g0.1, g0.2, wK hp (fun j hj => ?_)⟩
   have := (g j hj (Nat.zero_le _)).2
   rw [hs0, w64 (by omega) (by omega)] at this
   exact this
  ·rintro ⟨g1, g2, g3⟩ j hj _
   rw [hs0]
   exact ⟨⟨g1, g2⟩, by rw [wG hp hs g3 j hj, w64 (by omega) (by omega)]⟩
 have huv : u = v := Bool.eq_iff_iff.2 (hu.trans hv.symm)
 subst huv
 refine ⟨u, ?_, ?_, hv.trans main⟩
 ·have ho : jy.f F = some F := by
   unfold jy.f
   simp only [Option.bind_some, List.length_nil, List.nil_append]
   rw [if_pos (by omega)]
  refine Ev.step (fun k => by rw [aM.j0, if_neg (by simp), ho]) ?_
  exact Ev.bind (Ev.now _) (bC (by omega) (Ev.bind m1 v1))
 ·have hso : fw.f (F ++ B) = some s := by
   unfold fw.f
   rw [if_pos (by omega), if_pos (by omega), hse]
  refine Ev.step (fun k => by rw [bv.j0, if_neg (by simp)]) ?_
  refine Ev.bind (vY (by omega) (by omega)) ?_
  rw [hso]
  exact Ev.bind (Ev.now _) u1
theorem nX (a b : Int) (F B H : List Int) (hH : H.length ≤ 1048576) : ∃ v : Bool, Ev (fun k => aM.f k a b F B H) v ∧ Ev (fun k => bv.f k a b F B H) v ∧ (v = true ↔ jS a b F B H) := by
 have len : ∀ l : List Int, dD.f l = some (l.length : Int) := fun l => rfl
 unfold aM.f bv.f
 rcases Bl a b with ⟨i, j, i1, j1, ha, hb, s1, s2⟩ | ⟨s1, s2⟩
 ·have h64 : 2 ^ (i + j) ≤ 64 := Nat.le_trans (Nat.pow_le_pow_right (by omega) (show i + j ≤ 6 by omega)) (by decide)
  have hpos : 0 < 2 ^ (i + j) := Nat.pow_pos (by omega)
  have hab : a * b = ((2 ^ (i + j) : Nat) : Int) := by rw [ha, hb, Nat.pow_add]; exact (Int.natCast_mul _ _).symm
  have hok : jS a b F B H → F.length = 2 ^ (i + j) ∧ B.length = 2 ^ (i + j) ∧ H.length = 2 ^ (i + j) ∧ (∀ x ∈ H, 0 ≤ x ∧ x ≤ 1) ∧ ∃ first, 1 ≤ first ∧ first ≤ 1000000000 ∧ first ∈ F ++ B ∧ Run (F ++ B) first := by
   rintro ⟨i', j', _, _, ha', hb', h1, h2, h3, h4, h5⟩
   obtain rfl := yT (ha.symm.trans ha')
   obtain rfl := yT (hb.symm.trans hb')
   exact ⟨h1, h2, h3, h4, h5⟩
  have hko : F.length = 2 ^ (i + j) → B.length = 2 ^ (i + j) → H.length = 2 ^ (i + j) → (∀ x ∈ H, 0 ≤ x ∧ x ≤ 1) → (∃ first, 1 ≤ first ∧ first ≤ 1000000000 ∧ first ∈ F ++ B ∧ Run (F ++ B) first) → jS a b F B H := fun h1 h2 h3 h4 h5 => ⟨i, j, i1, j1, ha, hb, h1, h2, h3, h4, h5⟩
  generalize 2 ^ (i + j) = n at h64 hpos hab hok hko
  have hw : wrap64 (a * b) = (n : Int) := by rw [hab]; exact w64 (by omega) (by omega)
  rw [s1, s2, hw, len, len, len]
  have sb : Ev (fun k => aM.j0 k (n : Int) true a b F B H) false := Ev.step (f := fun _ => some false) (fun k => by rw [aM.j0, if_pos rfl]) (Ev.now _)
  have ib : Ev (fun k => bv.j0 k true a b F B H) false := Ev.step (f := fun _ => some false) (fun k => by rw [bv.j0, if_pos rfl]) (Ev.now _)
  by_cases c1 : (F.length : Int) = (n : Int)
  ·by_cases c2 : (B.length : Int) = (n : Int)
   ·by_cases c3 : (H.length : Int) = (n : Int)
    ·have hwi := xO H 64 0 1 (by omega) (decide (∀ x ∈ H, 0 ≤ x ∧ x ≤ 1)) (by rw [decide_eq_true_iff]; exact ⟨fun h => ⟨by omega, h⟩, fun h => h.2⟩)
     rw [yt]
     by_cases c4 : ∀ x ∈ H, 0 ≤ x ∧ x ≤ 1
     ·rw [decide_eq_true c4] at hwi ⊢
      obtain ⟨v, v1, v2, v3⟩ := xF F B a b H n (by omega) (by omega) hpos h64
      refine ⟨v, Ev.bind (Ev.now _) (bC rfl (bC c1 (bC c2 (bC c3 (Ev.bind hwi v1))))), Ev.bind (Ev.now _) (bC rfl (Ev.bind (Ev.now _) (bC c1 (Ev.bind (Ev.now _) (bC c2 (Ev.bind (Ev.now _) (bC c3 (Ev.bind (Ev.now _) v2)))))))), ?_⟩
      rw [v3]
      exact ⟨fun h => hko (by omega) (by omega) (by omega) c4 h, fun h => (hok h).2.2.2.2⟩
     ·rw [decide_eq_false c4] at hwi ⊢
      exact ⟨false, Ev.bind (Ev.now _) (bC rfl (bC c1 (bC c2 (bC c3 (Ev.bind hwi sb))))), Ev.bind (Ev.now _) (bC rfl (Ev.bind (Ev.now _) (bC c1 (Ev.bind (Ev.now _) (bC c2 (Ev.bind (Ev.now _) (bC c3 (Ev.bind (Ev.now _) ib)))))))), (fun z => by cases z), fun h => (c4 (hok h).2.2.2.1).elim⟩
    ·exact ⟨false, Ev.bind (Ev.now _) (bC rfl (bC c1 (bC c2 (dW c3 sb)))), Ev.bind (Ev.now _) (bC rfl (Ev.bind (Ev.now _) (bC c1 (Ev.bind (Ev.now _) (bC c2 (Ev.bind (Ev.now _) (dW c3 ib))))))), (fun z => by cases z), fun h => (c3 (by rw [(hok h).2.2.1])).elim⟩
   ·exact ⟨false, Ev.bind (Ev.now _) (bC rfl (bC c1 (dW c2 sb))), Ev.bind (Ev.now _) (bC rfl (Ev.bind (Ev.now _) (bC c1 (Ev.bind (Ev.now _) (dW c2 ib))))), (fun z => by cases z), fun h => (c2 (by rw [(hok h).2.1])).elim⟩
  ·exact ⟨false, Ev.bind (Ev.now _) (bC rfl (dW c1 sb)), Ev.bind (Ev.now _) (bC rfl (Ev.bind (Ev.now _) (dW c1 ib))), (fun z => by cases z), fun h => (c1 (by rw [(hok h).1])).elim⟩
 ·rw [s1, s2]
  have sb : Ev (fun k => aM.j0 k (wrap64 (a * b)) true a b F B H) false := Ev.step (f := fun _ => some false) (fun k => by rw [aM.j0, if_pos rfl]) (Ev.now _)
  refine ⟨false, Ev.bind (Ev.now _) (dW (by simp) sb), Ev.bind (Ev.now _) (dW (by simp) (Ev.now _)), (fun z => by cases z), ?_⟩
  rintro ⟨i, j, i1, j1, ha, hb, _⟩
  rw [ha, hb, xJ i1 j1] at s2
  cases s2
abbrev SL := S64
def fC (H W : Nat) (g : Nat → Nat → List SL) : List (List (List SL)) := (List.range H).map fun y => (List.range W).map (g y)
theorem iL (H W : Nat) (g : Nat → Nat → List SL) : (fC H W g).length = H := by simp [fC]
theorem ng {H W : Nat} {g : Nat → Nat → List SL} {y : Nat} (h : y < H) : bJ (fC H W g) (y : Int) = (List.range W).map (g y) := by
 unfold bJ fC
 rw [Int.toNat_natCast, List.getD_eq_getElem?_getD, List.getElem?_map, List.getElem?_range h]
 rfl
theorem nU {H W : Nat} {g : Nat → Nat → List SL} {y : Nat} (h : y < H) : (fC H W g).getD y [] = (List.range W).map (g y) := ng (W := W) (g := g) h
theorem oM {W : Nat} {f : Nat → List SL} {x : Nat} (h : x < W) : dY ((List.range W).map f) (x : Int) = f x := by
 unfold dY
 rw [Int.toNat_natCast, List.getD_eq_getElem?_getD, List.getElem?_map, List.getElem?_range h]
 rfl
theorem yX {W : Nat} {f : Nat → List SL} {x : Nat} (h : x < W) : ((List.range W).map f).getD x [] = f x := oM h
theorem jP (W : Nat) (f : Nat → List SL) : ((List.range W).map f).length = W := by simp
theorem jC {α : Type} (x : Nat) (f : Nat → α) : (List.range x).map f ++ [f x] = (List.range (x + 1)).map f := by rw [List.range_succ, List.map_append]; rfl
def jQ (a : Bool) (l : List SL) : List SL := l.reverse.map (bS.jB a)
theorem iX (a : Bool) (l : List SL) : (jQ a l).length = l.length := by simp [jQ]
theorem kZ {l : List SL} (a : Bool) (h : l.length ≤ 64) : bS.f l a = some (jQ a l) := by unfold bS.f; rw [if_pos (by omega)]; rfl
def ovr (f : Bool) (h i : Nat) : Nat := if f = true then h - 1 - i else 2 * h - 1 - i
def und (f : Bool) (h i : Nat) : Nat := if f = true then h + i else i
def gY (f : Bool) (W : Nat) (g : Nat → Nat → List SL) : Nat → Nat → List SL := fun y x => jQ true (g y (ovr f W x)) ++ g y (und f W x)
def gN (f : Bool) (H : Nat) (g : Nat → Nat → List SL) : Nat → Nat → List SL := fun y x => jQ false (g (ovr f H y) x) ++ g (und f H y) x
theorem Ay (h : Nat) (hh : h ≤ 100) : wrap64 (Int.tdiv ((2 * h : Nat) : Int) 2) = (h : Int) := by rw [Int.tdiv_eq_ediv_of_nonneg (by omega), w64 (by omega) (by omega)]; omega
theorem ltc {a b : Nat} (h : a < b) : (a : Int) < (b : Int) := Int.ofNat_lt.2 h
theorem nn (a : Nat) : 0 ≤ (a : Int) := Int.natCast_nonneg a
theorem CJ {a b : Nat} (h : ¬ a < b) : ¬ (a : Int) < (b : Int) := fun z => h (Int.ofNat_lt.1 z)
theorem w2a {W x : Nat} (hW : W ≤ 8) (h : x < W) : wrap64 (wrap64 ((W : Int) - 1) - (x : Int)) = ((W - 1 - x : Nat) : Int) := by rw [w64 (x := (W : Int) - 1) (by omega) (by omega), w64 (by omega) (by omega)]; omega
theorem w2b {W x : Nat} (hW : W ≤ 8) (h : x ≤ W) : wrap64 ((W : Int) + (x : Int)) = ((W + x : Nat) : Int) := by rw [w64 (by omega) (by omega)]; omega
theorem Dl (W : Nat) (g : Nat → Nat → List SL) (y x : Nat) : gY true W g y x = jQ true (g y (W - 1 - x)) ++ g y (W + x) := rfl
theorem Dk (W : Nat) (g : Nat → Nat → List SL) (y x : Nat) : gY false W g y x = jQ true (g y (2 * W - 1 - x)) ++ g y x := rfl
theorem zT {a b : List SL} (t : Bool) (ha : a.length ≤ 64) (hb : b.length ≤ 64) : (jQ t a).length + b.length < 5864062014805 := by rw [iX]; omega
theorem qX {α : Type} {l : List α} (h : l.length ≤ 8) : l.length < 5864062014805 := by omega
-- one row, folded along
theorem yu {H W : Nat} {g : Nat → Nat → List SL} (c : Int) (hW : W ≤ 4) (y : Nat) (hy : y < H) (hg : ∀ x, x < 2 * W → (g y x).length ≤ 64) (a5 : List (List (List SL))) (h5 : a5.length ≤ 8) (r : List (List (List SL)))
  (hr : Ev (fun k => aI.l0 k (fC H (2 * W) g) c (a5 ++ [(List.range W).map (gY (c == 76) W g y)]) (wrap64 ((y : Int) + 1))) r) :
  ∀ d x : Nat, x + d = W → Ev (fun k => aI.l1 k (fC H (2 * W) g) c a5 (y : Int) ((2 * W : Nat) : Int) ((List.range x).map (gY (c == 76) W g y)) (x : Int)) r := by
 have e1 := ah.mk (Ay W (by omega))
 have hG : (y : Int) < ((fC H (2 * W) g).length : Int) := by rw [iL]; exact ltc hy
 have hR := ng (H := H) (W := 2 * W) (g := g) hy
 have hc0 : ∀ i : Nat, i < 2 * W → dY ((List.range (2 * W)).map (g y)) (i : Int) = g y i := fun i hi => oM hi
 have hlen : ∀ i : Nat, i < 2 * W → (i : Int) < (((List.range (2 * W)).map (g y)).length : Int) := fun i hi => by rw [jP]; exact ltc hi
 generalize fC H (2 * W) g = G at hr hG hR ⊢
 generalize (List.range (2 * W)).map (g y) = R at hR hc0 hlen
 intro d
 induction d with
 | zero =>
  intro x hx
  obtain rfl : x = W := by omega
  have hn : ¬ (x : Int) < (x : Int) := Int.lt_irrefl _
  exact Ev.step (fun k => by rw [aI.l1, e1.out, if_neg hn, if_pos (qX h5)]) hr
 | succ d ih =>
  intro x hx
  have ih' := ih (x + 1) (by omega)
  have h8 : ((List.range x).map (gY (c == 76) W g y)).length ≤ 8 := by rw [jP]; omega
  rw [← jC, ← jH x (by omega)] at ih'
  generalize (List.range x).map (gY (c == 76) W g y) = acc at ih' h8 ⊢
  clear ih hr
  have f1 : (x : Int) < (W : Int) := ltc (by omega)
  have f4 := hlen (2 * W - 1 - x) (by omega)
  have f5 := hlen x (by omega)
  have e2 := ah.mk (w2a (W := 2 * W) (x := x) (by omega) (by omega))
  by_cases hc : c = 76
  ·rw [show (c == 76) = true by rw [hc]; rfl, Dl] at ih'
   have f6 := hlen (W - 1 - x) (by omega)
   have f7 := hlen (W + x) (by omega)
   have l1 := hg (W - 1 - x) (by omega)
   have l2 := hg (W + x) (by omega)
   have e3 := ah.mk (w2a (W := W) (x := x) (by omega) (by omega))
   have e4 := ah.mk (w2b (W := W) (x := x) (by omega) (by omega))
   have c1 := hc0 (W - 1 - x) (by omega)
   have c2 := hc0 (W + x) (by omega)
   refine Ev.step (fun k => ?_) ih'
   rw [aI.l1, e1.out, hR, e2.out, e3.out, e4.out, if_pos f1, if_pos (nn y), if_pos hG, if_pos (nn _), if_pos f4, if_pos (nn x), if_pos f5, if_pos hc, if_pos (nn _), if_pos f6, if_pos (nn _), if_pos f7, c1, c2, kZ true l1, Option.bind_some, if_pos (zT true l1 l2), if_pos (qX h8)]
  ·rw [show (c == 76) = false from beq_false_of_ne hc, Dk] at ih'
   have l1 := hg (2 * W - 1 - x) (by omega)
   have l2 := hg x (by omega)
   have c1 := hc0 (2 * W - 1 - x) (by omega)
   have c2 := hc0 x (by omega)
   refine Ev.step (fun k => ?_) ih'
   rw [aI.l1, e1.out, hR, e2.out, if_pos f1, if_pos (nn y), if_pos hG, if_pos (nn _), if_pos f4, if_pos (nn x), if_pos f5, if_neg hc, c1, c2, kZ true l1, Option.bind_some, if_pos (zT true l1 l2), if_pos (qX h8)]
theorem uO {H W : Nat} {g : Nat → Nat → List SL} (c : Int) (hH : H ≤ 8) (hW : W ≤ 4) (hg : ∀ y x, y < H → x < 2 * W → (g y x).length ≤ 64) : Ev (fun k => aI.f k (fC H (2 * W) g) c) (fC H W (gY (c == 76) W g)) := by
 have key : ∀ d y : Nat, y + d = H → Ev (fun k => aI.l0 k (fC H (2 * W) g) c ((List.range y).map fun y => (List.range W).map (gY (c == 76) W g y)) (y : Int)) (fC H W (gY (c == 76) W g)) := by
  intro d
  induction d with
  | zero =>
   intro y hy
   obtain rfl : y = H := by omega
   have hn : ¬ (y : Int) < ((fC y (2 * W) g).length : Int) := by rw [iL]; exact Int.lt_irrefl _
   exact Ev.step (f := fun _ => some (fC y W (gY (c == 76) W g))) (fun k => by rw [aI.l0, if_neg hn]; rfl) (Ev.now _)
  | succ d ih =>
   intro y hy
   have ih' := ih (y + 1) (by omega)
   rw [← jC, ← jH y (by omega)] at ih'
   have h := yu c hW y (show y < H by omega) (fun x hx => hg y x (by omega) hx) _ (by rw [List.length_map, List.length_range]; omega) _ ih' W 0 (by omega)
   have hG : (y : Int) < ((fC H (2 * W) g).length : Int) := by rw [iL]; exact ltc (by omega)
   have hR : ((bJ (fC H (2 * W) g) (y : Int)).length : Int) = ((2 * W : Nat) : Int) := by rw [ng (by omega), jP]
   refine Ev.step (fun k => ?_) h
   rw [aI.l0, if_pos hG, if_pos (nn y), hR]
   rfl
 exact key H 0 (by omega)
-- folded across
theorem sK {G : List (List (List SL))} {W : Nat} (c : Int) (hW : W ≤ 8) (fo fu : Nat → List SL) (hg : ∀ x, x < W → (fo x).length ≤ 64 ∧ (fu x).length ≤ 64) (a6 : List (List (List SL))) (h6 : a6.length ≤ 8) (y : Nat) (n : Int) (r : List (List (List SL)))
  (hr : Ev (fun k => ak.l0 k G c n (a6 ++ [(List.range W).map fun x => jQ false (fo x) ++ fu x]) (wrap64 ((y : Int) + 1))) r) :
  ∀ d x : Nat, x + d = W → Ev (fun k => ak.l1 k G c n a6 (y : Int) ((List.range W).map fo) ((List.range W).map fu) ((List.range x).map fun x => jQ false (fo x) ++ fu x) (x : Int)) r ∧ Ev (fun k => ak.nE k G c n a6 (y : Int) ((List.range W).map fo) ((List.range W).map fu) ((List.range x).map fun x => jQ false (fo x) ++ fu x) (x : Int)) r := by
 have hO : ∀ i : Nat, i < W → (i : Int) < (((List.range W).map fo).length : Int) := fun i hi => by rw [jP]; exact ltc hi
 have hU : ∀ i : Nat, i < W → (i : Int) < (((List.range W).map fu).length : Int) := fun i hi => by rw [jP]; exact ltc hi
 have hN : ¬ (W : Int) < (((List.range W).map fo).length : Int) := by rw [jP]; exact Int.lt_irrefl _
 have cO : ∀ i : Nat, i < W → dY ((List.range W).map fo) (i : Int) = fo i := fun i hi => oM hi
 have cU : ∀ i : Nat, i < W → dY ((List.range W).map fu) (i : Int) = fu i := fun i hi => oM hi
 generalize (List.range W).map fo = RO at hO hN cO ⊢
 generalize (List.range W).map fu = RU at hU cU ⊢
 intro d
 induction d with
 | zero =>
  intro x hx
  obtain rfl : x = W := by omega
  exact ⟨Ev.step (fun k => by rw [ak.l1, if_neg hN, if_pos (qX h6)]) hr, Ev.step (fun k => by rw [ak.nE, if_neg hN, if_pos (qX h6)]) hr⟩
 | succ d ih =>
  intro x hx
  obtain ⟨i1, i2⟩ := ih (x + 1) (by omega)
  have h10 : ((List.range x).map fun x => jQ false (fo x) ++ fu x).length ≤ 8 := by rw [List.length_map, List.length_range]; omega
  rw [← jC, ← jH x (by omega)] at i1 i2
  obtain ⟨l1, l2⟩ := hg x (by omega)
  have f1 := hO x (by omega)
  have f2 := hU x (by omega)
  have c1 := cO x (by omega)
  have c2 := cU x (by omega)
  generalize ((List.range x).map fun x => jQ false (fo x) ++ fu x) = acc at i1 i2 h10 ⊢
  clear ih hr
  constructor
  ·refine Ev.step (fun k => ?_) i1
   rw [ak.l1, if_pos f1, if_pos (nn x), c1, c2, kZ false l1, Option.bind_some, if_pos f2, if_pos (zT false l1 l2), if_pos (qX h10)]
  ·refine Ev.step (fun k => ?_) i2
   rw [ak.nE, if_pos f1, if_pos (nn x), c1, c2, kZ false l1, Option.bind_some, if_pos f2, if_pos (zT false l1 l2), if_pos (qX h10)]
theorem sJ {H W : Nat} {g : Nat → Nat → List SL} (c : Int) (hH : H ≤ 4) (hW : W ≤ 8) (hg : ∀ y x, y < 2 * H → x < W → (g y x).length ≤ 64) : Ev (fun k => ak.f k (fC (2 * H) W g) c) (fC H W (gN (c == 84) H g)) := by
 have e1 := ah.mk (Ay H (by omega))
 have hlen : ∀ i : Nat, i < 2 * H → (i : Int) < ((fC (2 * H) W g).length : Int) := fun i hi => by rw [iL]; exact ltc hi
 have hrow : ∀ i : Nat, i < 2 * H → bJ (fC (2 * H) W g) (i : Int) = (List.range W).map (g i) := fun i hi => ng hi
 have hL : ((fC (2 * H) W g).length : Int) = ((2 * H : Nat) : Int) := by rw [iL]
 have key : ∀ d y : Nat, y + d = H → Ev (fun k => ak.l0 k (fC (2 * H) W g) c ((2 * H : Nat) : Int) ((List.range y).map fun y => (List.range W).map (gN (c == 84) H g y)) (y : Int)) (fC H W (gN (c == 84) H g)) := by
  generalize fC (2 * H) W g = G at hlen hrow
  intro d
  induction d with
  | zero =>
   intro y hy
   obtain rfl : y = H := by omega
   have hn : ¬ (y : Int) < (y : Int) := Int.lt_irrefl _
   exact Ev.step (f := fun _ => some (fC y W (gN (c == 84) y g))) (fun k => by rw [ak.l0, e1.out, if_neg hn]; rfl) (Ev.now _)
  | succ d ih =>
   intro y hy
   have ih' := ih (y + 1) (by omega)
   rw [← jC, ← jH y (by omega)] at ih'
   have h6 : ((List.range y).map fun y => (List.range W).map (gN (c == 84) H g y)).length ≤ 8 := by rw [List.length_map, List.length_range]; omega
   generalize ((List.range y).map fun y => (List.range W).map (gN (c == 84) H g y)) = acc at ih' h6 ⊢
   have e2 := ah.mk (w2a (W := 2 * H) (x := y) (by omega) (by omega))
   have f1 : (y : Int) < (H : Int) := ltc (by omega)
   have f2 := hlen (2 * H - 1 - y) (by omega)
   have f3 := hlen y (by omega)
   clear ih
   by_cases hc : c = 84
   ·have hcb : (c == 84) = true := by rw [hc]; rfl
    rw [hcb] at ih' ⊢
    have e3 := ah.mk (w2a (W := H) (x := y) (by omega) (by omega))
    have e4 := ah.mk (w2b (W := H) (x := y) (by omega) (by omega))
    have f4 := hlen (H - 1 - y) (by omega)
    have f5 := hlen (H + y) (by omega)
    have r1 := hrow (H - 1 - y) (by omega)
    have r2 := hrow (H + y) (by omega)
    have h := (sK (G := G) c hW (g (H - 1 - y)) (g (H + y)) (fun x hx => ⟨hg _ x (by omega) hx, hg _ x (by omega) hx⟩) acc h6 y _ _ ih' W 0 (by omega)).1
    refine Ev.step (fun k => ?_) h
    rw [ak.l0, e1.out, e2.out, e3.out, e4.out, if_pos f1, if_pos (nn _), if_pos f2, if_pos (nn y), if_pos f3, if_pos hc, if_pos (nn _), if_pos f4, if_pos (nn _), if_pos f5, r1, r2]
    rfl
   ·have hcb : (c == 84) = false := beq_false_of_ne hc
    rw [hcb] at ih' ⊢
    have r1 := hrow (2 * H - 1 - y) (by omega)
    have r2 := hrow y (by omega)
    have h := (sK (G := G) c hW (g (2 * H - 1 - y)) (g y) (fun x hx => ⟨hg _ x (by omega) hx, hg _ x (by omega) hx⟩) acc h6 y _ _ ih' W 0 (by omega)).2
    refine Ev.step (fun k => ?_) h
    rw [ak.l0, e1.out, e2.out, if_pos f1, if_pos (nn _), if_pos f2, if_pos (nn y), if_pos f3, if_neg hc, r1, r2]
    rfl
 have hk := key H 0 (by omega)
 unfold ak.f
 rw [hL]
 exact hk
theorem pY {l : List SL} (a : Bool) (h : l.length ≤ 64) : dV.f l a = some (jQ (!a) l) := by
 unfold dV.f
 rw [if_pos (by omega)]
 have e : dV.jB a = bS.jB (!a) := by funext x; cases a <;> rfl
 rw [e]; rfl
theorem uf (s : ByteArray) (i : Nat) (h : i < s.size) : bt s (i : Int) = ((s.data.toList[i]'(by simpa using h)).toNat : Int) := by
 unfold bt
 rw [dif_pos (by rw [Int.toNat_natCast]; exact h)]
 simp [ByteArray.getElem_eq_getElem_data]
def lrc (l : List UInt8) : Nat := List.count 76 l + List.count 82 l
theorem kJ (c : UInt8) (t : List UInt8) : lrc (c :: t) = lrc t + (if c = 76 ∨ c = 82 then 1 else 0) := by
 unfold lrc
 rw [List.count_cons, List.count_cons]
 by_cases h1 : c = 76
 ·subst h1; simp; omega
 ·by_cases h2 : c = 82
  ·subst h2; simp; omega
  ·simp [h1, h2]
theorem uy (l : List UInt8) : lrc l ≤ l.length := by
 induction l with
 | nil => decide
 | cons c t ih => rw [kJ, List.length_cons]; split <;> omega
theorem qC (c : UInt8) (n : Nat) (hn : n < 256) : ((c.toNat : Int) = (n : Int)) ↔ c = UInt8.ofNat n := by
 have e : (UInt8.ofNat n).toNat = n := (show (UInt8.ofNat n).toNat = n % 256 from rfl).trans (Nat.mod_eq_of_lt hn)
 constructor
 ·intro h
  apply UInt8.toNat_inj.1
  rw [e]
  omega
 ·rintro rfl
  rw [e]
def iK : List UInt8 → Nat → Nat → (Nat → Nat → List SL) → List SL
 | [], _, _, g => g 0 0
 | c :: t, H, W, g => if c = 76 ∨ c = 82 then iK t H (W / 2) (gY (c == 76) (W / 2) g) else iK t (H / 2) W (gN (c == 84) (H / 2) g)
def g0 : Nat → Nat → List SL := fun y x => [⟨(x : Int), (y : Int), false, false⟩]
theorem oN {H W : Nat} (hH : H ≤ 8) (hW : W ≤ 8) : Ev (fun k => bD.f k (W : Int) (H : Int)) (fC H W g0) := by
 have hin : ∀ (y : Nat) (a5 : List (List (List SL))) (r : List (List (List SL))), a5.length ≤ 8 → Ev (fun k => bD.l0 k (W : Int) (H : Int) (a5 ++ [(List.range W).map (g0 y)]) (wrap64 ((y : Int) + 1))) r → ∀ d x : Nat, x + d = W → Ev (fun k => bD.l1 k (W : Int) (H : Int) a5 (y : Int) ((List.range x).map (g0 y)) (x : Int)) r := by
  intro y a5 r h5 hr d
  induction d with
  | zero =>
   intro x hx
   obtain rfl : x = W := by omega
   have hn : ¬ (x : Int) < (x : Int) := Int.lt_irrefl _
   exact Ev.step (fun k => by rw [bD.l1, if_neg hn, if_pos (qX h5)]) hr
  | succ d ih =>
   intro x hx
   have ih' := ih (x + 1) (by omega)
   have h8 : ((List.range x).map (g0 y)).length ≤ 8 := by rw [jP]; omega
   have f1 : (x : Int) < (W : Int) := ltc (by omega)
   rw [← jC, ← jH x (by omega)] at ih'
   exact Ev.step (fun k => by rw [bD.l1, if_pos f1, if_pos (qX h8)]; rfl) ih'
 have key : ∀ d y : Nat, y + d = H → Ev (fun k => bD.l0 k (W : Int) (H : Int) ((List.range y).map fun y => (List.range W).map (g0 y)) (y : Int)) (fC H W g0) := by
  intro d
  induction d with
  | zero =>
   intro y hy
   obtain rfl : y = H := by omega
   have hn : ¬ (y : Int) < (y : Int) := Int.lt_irrefl _
   exact Ev.step (f := fun _ => some (fC y W g0)) (fun k => by rw [bD.l0, if_neg hn]; rfl) (Ev.now _)
  | succ d ih =>
   intro y hy
   have ih' := ih (y + 1) (by omega)
   rw [← jC, ← jH y (by omega)] at ih'
   have f1 : (y : Int) < (H : Int) := ltc (by omega)
   have h := hin y _ _ (by rw [List.length_map, List.length_range]; omega) ih' W 0 (by omega)
   exact Ev.step (fun k => by rw [bD.l0, if_pos f1]; rfl) h
 exact key H 0 (by omega)
theorem kv {s : ByteArray} {pos : Nat} {G G' : List (List (List SL))} {r : List SL} (hp : pos < s.size) (hp2 : pos < 1000) (hb : bt s (pos : Int) = 76 ∨ bt s (pos : Int) = 82) (h1 : Ev (fun k => aI.f k G (bt s (pos : Int))) G') (h2 : Ev (fun k => aJ.l0 k s G' ((pos + 1 : Nat) : Int)) r) : Ev (fun k => aJ.l0 k s G (pos : Int)) r := by
 have f1 : (pos : Int) < (s.size : Int) := ltc hp
 refine Ev.step (f := fun k => aJ.j1 k s G (pos : Int) true) (fun k => ?_) ?_
 ·rw [aJ.l0, if_pos f1, if_pos (nn _)]
  rcases hb with hb | hb
  ·rw [if_pos hb]
  ·rw [if_neg (by rw [hb]; decide), hb]; rfl
 ·refine Ev.step (fun k => by rw [aJ.j1, if_pos rfl, if_pos (nn _), if_pos f1, jH pos (by omega)]) ?_
  exact Ev.bind h1 h2
theorem kw {s : ByteArray} {pos : Nat} {G G' : List (List (List SL))} {r : List SL} (hp : pos < s.size) (hp2 : pos < 1000) (hb : bt s (pos : Int) = 84 ∨ bt s (pos : Int) = 66) (h1 : Ev (fun k => ak.f k G (bt s (pos : Int))) G') (h2 : Ev (fun k => aJ.l0 k s G' ((pos + 1 : Nat) : Int)) r) : Ev (fun k => aJ.l0 k s G (pos : Int)) r := by
 have f1 : (pos : Int) < (s.size : Int) := ltc hp
 refine Ev.step (f := fun k => aJ.j1 k s G (pos : Int) false) (fun k => ?_) ?_
 ·rw [aJ.l0, if_pos f1, if_pos (nn _)]
  rcases hb with hb | hb
  ·rw [if_neg (by rw [hb]; decide), hb]; rfl
  ·rw [if_neg (by rw [hb]; decide), hb]; rfl
 ·refine Ev.step (fun k => by rw [aJ.j1, if_neg (by simp), if_pos (nn _), if_pos f1, jH pos (by omega)]) ?_
  exact Ev.bind h1 h2
theorem mE {i n : Nat} (h : i ≤ n) : 2 ^ i ≤ 2 ^ n := Nat.pow_le_pow_right (by omega) h
theorem sN {b c : List SL} (hb : b.length ≤ 64) (hc : c.length ≤ 64) : Ev (fun k => bK.f k [b, c]) (b ++ c) := by
 have r0 : dY [b, c] 0 = b := rfl
 have r1 : dY [b, c] 1 = c := rfl
 have l2 : (([b, c] : List (List SL)).length : Int) = 2 := rfl
 have g0 : (0 : Int) < (([b, c] : List (List SL)).length : Int) := by rw [l2]; omega
 have g1 : (1 : Int) < (([b, c] : List (List SL)).length : Int) := by rw [l2]; omega
 have w1 : wrap64 (0 + 1) = 1 := by rw [w64 (by omega) (by omega)]; rfl
 have w2 : wrap64 (1 + 1) = 2 := by rw [w64 (by omega) (by omega)]; rfl
 have s1 : wrap64 (0 + (b.length : Int)) = (b.length : Int) := by rw [w64 (by omega) (by omega)]; omega
 have s2 : wrap64 ((b.length : Int) + (c.length : Int)) = ((b.length + c.length : Nat) : Int) := by rw [w64 (by omega) (by omega)]; omega
 have hg : iO.f ([] : List SL) ((b.length + c.length : Nat) : Int) = some [] := by
  unfold iO.f
  rw [if_pos rfl, if_pos (nn _), if_pos (by omega)]
 have a1 : ([] : List SL).length + b.length < 5864062014805 := by rw [List.length_nil]; omega
 have a2 : b.length + c.length < 5864062014805 := by omega
 generalize ([b, c] : List (List SL)) = G at r0 r1 l2 g0 g1
 refine Ev.step (f := fun k => bK.l0 k G (b.length : Int) G 2 1) (fun k => ?_) ?_
 ·show bK.l0 (k + 1) G 0 G (G.length : Int) 0 = _
  rw [l2, bK.l0, r0, s1, w1, if_pos (by decide), if_pos (by decide), if_pos g0, if_neg (by omega)]
 refine Ev.step (f := fun k => bK.l0 k G ((b.length + c.length : Nat) : Int) G 2 2) (fun k => ?_) ?_
 ·rw [bK.l0, r1, s2, w2, if_pos (by decide), if_pos (by decide), if_pos g1, if_neg (by omega)]
 refine Ev.step (f := fun k => bK.l1 k [] G 2 0) (fun k => ?_) ?_
 ·rw [bK.l0, if_neg (by decide), hg, l2]; rfl
 refine Ev.step (f := fun k => bK.l1 k b G 2 1) (fun k => ?_) ?_
 ·rw [bK.l1, r0, w1, if_pos (by decide), if_pos (by decide), if_pos g0, if_pos a1, List.nil_append]
 refine Ev.step (f := fun k => bK.l1 k (b ++ c) G 2 2) (fun k => ?_) ?_
 ·rw [bK.l1, r1, w2, if_pos (by decide), if_pos (by decide), if_pos g1, if_pos a2]
 exact Ev.step (f := fun _ => some (b ++ c)) (fun k => by rw [bK.l1, if_neg (by decide)]) (Ev.now _)
theorem qW {c : Nat → Nat → Option (List SL)} {f : Nat → List SL} : ∀ (n x : Nat), (∀ i, x ≤ i → i < x + n → Ev (fun k => c k i) (f i)) → Ev (fun k => kG (c k) n x ((List.range x).map f)) ((List.range (x + n)).map f)
 | 0, x, _ => Ev.now _
 | n + 1, x, h => by
  refine Ev.bind (h x (by omega) (by omega)) ?_
  have := qW (c := c) (f := f) n (x + 1) (fun i h1 h2 => h i (by omega) (by omega))
  rw [jC, show x + (n + 1) = x + 1 + n by omega]
  exact this
theorem pu {c : Nat → Nat → Option (List (List SL))} {f : Nat → List (List SL)} : ∀ (n x : Nat), (∀ i, x ≤ i → i < x + n → Ev (fun k => c k i) (f i)) → Ev (fun k => kV (c k) n x ((List.range x).map f)) ((List.range (x + n)).map f)
 | 0, x, _ => Ev.now _
 | n + 1, x, h => by
  refine Ev.bind (h x (by omega) (by omega)) ?_
  have := pu (c := c) (f := f) n (x + 1) (fun i h1 h2 => h i (by omega) (by omega))
  rw [jC, show x + (n + 1) = x + 1 + n by omega]
  exact this
theorem qH {H W : Nat} {g : Nat → Nat → List SL} (a : Bool) (h w x y : Nat) (s o : Bool) {Y X : Nat} (hY : (if a = true then jN h y s o else y) = Y) (hX : (if a = true then x else jN w x s o) = X) (h1 : Y < H) (h2 : X < W) : sV (fC H W g) a h w x y s o = some (g Y X) := by
 unfold sV
 rw [hY, hX, if_pos (by rw [iL]; exact h1), nU h1, if_pos (by rw [jP]; exact h2), yX h2]
theorem um {H W : Nat} {g : Nat → Nat → List SL} (f : Bool) (hH : 0 < H ∧ H ≤ 8) (hW : W ≤ 4) (hg : ∀ y x, y < H → x < 2 * W → (g y x).length ≤ 64) : Ev (fun k => eB.f k (fC H (2 * W) g) false f) (fC H W (gY f W g)) := by
 have hl : ((fC H (2 * W) g).getD 0 []).length = 2 * W := by rw [nU hH.1, jP]
 have hc : 0 < (fC H (2 * W) g).length ∧ (fC H (2 * W) g).length ≤ 1000 ∧ ((fC H (2 * W) g).getD 0 []).length ≤ 1000 := by rw [iL, hl]; omega
 unfold eB.f
 refine bC hc ?_
 rw [hl, iL, show hvH false H = H from rfl, show hvW false (2 * W) = W from by unfold hvW; simp]
 have key := pu (c := fun k y => kG (fun x => jM k (fC H (2 * W) g) false f H W y x) W 0 []) (f := fun y => (List.range W).map (gY f W g y)) H 0 (fun y _ hy => by
  have hr := qW (c := fun k x => jM k (fC H (2 * W) g) false f H W y x) (f := gY f W g y) W 0 (fun x _ hx => by
   have b1 := hg y (ovr f W x) (by omega) (by unfold ovr; split <;> omega)
   have b2 := hg y (und f W x) (by omega) (by unfold und; split <;> omega)
   unfold jM
   rw [qH (H := H) (W := 2 * W) (g := g) false H W x y (!f) true (Y := y) (X := ovr f W x) rfl (by cases f <;> simp [jN, ovr] <;> omega) (by omega) (by unfold ovr; split <;> omega),
    qH (H := H) (W := 2 * W) (g := g) false H W x y f false (Y := y) (X := und f W x) rfl (by cases f <;> simp [jN, und] <;> omega) (by omega) (by unfold und; split <;> omega)]
   simp only [Option.bind_some]
   rw [pY false b1]
   simp only [Option.bind_some]
   exact sN (by rw [iX]; exact b1) b2)
  rw [Nat.zero_add] at hr
  exact hr)
 rw [Nat.zero_add] at key
 exact key
theorem rU {H W : Nat} {g : Nat → Nat → List SL} (f : Bool) (hH : 0 < H ∧ H ≤ 4) (hW : W ≤ 8) (hg : ∀ y x, y < 2 * H → x < W → (g y x).length ≤ 64) : Ev (fun k => eB.f k (fC (2 * H) W g) true f) (fC H W (gN f H g)) := by
 have hl : ((fC (2 * H) W g).getD 0 []).length = W := by rw [nU (by omega), jP]
 have hc : 0 < (fC (2 * H) W g).length ∧ (fC (2 * H) W g).length ≤ 1000 ∧ ((fC (2 * H) W g).getD 0 []).length ≤ 1000 := by rw [iL, hl]; omega
 unfold eB.f
 refine bC hc ?_
 rw [hl, iL, show hvW true W = W from rfl, show hvH true (2 * H) = H from by unfold hvH; simp]
 have key := pu (c := fun k y => kG (fun x => jM k (fC (2 * H) W g) true f H W y x) W 0 []) (f := fun y => (List.range W).map (gN f H g y)) H 0 (fun y _ hy => by
  have hr := qW (c := fun k x => jM k (fC (2 * H) W g) true f H W y x) (f := gN f H g y) W 0 (fun x _ hx => by
   have b1 := hg (ovr f H y) x (by unfold ovr; split <;> omega) (by omega)
   have b2 := hg (und f H y) x (by unfold und; split <;> omega) (by omega)
   unfold jM
   rw [qH (H := 2 * H) (W := W) (g := g) true H W x y (!f) true (Y := ovr f H y) (X := x) (by cases f <;> simp [jN, ovr] <;> omega) rfl (by unfold ovr; split <;> omega) (by omega),
    qH (H := 2 * H) (W := W) (g := g) true H W x y f false (Y := und f H y) (X := x) (by cases f <;> simp [jN, und] <;> omega) rfl (by unfold und; split <;> omega) (by omega)]
   simp only [Option.bind_some]
   rw [pY true b1]
   simp only [Option.bind_some]
   exact sN (by rw [iX]; exact b1) b2)
  rw [Nat.zero_add] at hr
  exact hr)
 rw [Nat.zero_add] at key
 exact key
-- the sheet before any fold
theorem uo {H W : Nat} (s : ByteArray) (hH : H ≤ 8) (hW : W ≤ 8) (r : List SL) (hr : Ev (fun k => aA.l2 k s (fC H W g0) (s.size : Int) 0) r) : Ev (fun k => aA.f k (W : Int) (H : Int) s) r := by
 have hin : ∀ (y : Nat) (a5 : List (List (List SL))) (r : List SL), a5.length ≤ 8 → Ev (fun k => aA.l0 k (W : Int) s (a5 ++ [(List.range W).map (g0 y)]) (H : Int) (wrap64 ((y : Int) + 1))) r → ∀ d x : Nat, x + d = W → Ev (fun k => aA.l1 k (W : Int) s a5 (y : Int) ((List.range x).map (g0 y)) (H : Int) (y : Int) (W : Int) (x : Int)) r := by
  intro y a5 r h5 hr d
  induction d with
  | zero =>
   intro x hx
   obtain rfl : x = W := by omega
   have hn : ¬ (x : Int) < (x : Int) := Int.lt_irrefl _
   exact Ev.step (fun k => by rw [aA.l1, if_neg hn, if_pos (qX h5)]) hr
  | succ d ih =>
   intro x hx
   have ih' := ih (x + 1) (by omega)
   have h8 : ((List.range x).map (g0 y)).length ≤ 8 := by rw [jP]; omega
   have f1 : (x : Int) < (W : Int) := ltc (by omega)
   rw [← jC, ← jH x (by omega)] at ih'
   exact Ev.step (fun k => by rw [aA.l1, if_pos f1, if_pos (qX h8)]; rfl) ih'
 have key : ∀ d y : Nat, y + d = H → Ev (fun k => aA.l0 k (W : Int) s ((List.range y).map fun y => (List.range W).map (g0 y)) (H : Int) (y : Int)) r := by
  intro d
  induction d with
  | zero =>
   intro y hy
   obtain rfl : y = H := by omega
   have hn : ¬ (y : Int) < (y : Int) := Int.lt_irrefl _
   exact Ev.step (fun k => by rw [aA.l0, if_neg hn]; rfl) hr
  | succ d ih =>
   intro y hy
   have ih' := ih (y + 1) (by omega)
   rw [← jC, ← jH y (by omega)] at ih'
   have f1 : (y : Int) < (H : Int) := ltc (by omega)
   have h := hin y _ _ (by rw [List.length_map, List.length_range]; omega) ih' W 0 (by omega)
   exact Ev.step (fun k => by rw [aA.l0, if_pos f1]; rfl) h
 exact key H 0 (by omega)
theorem lM {s : ByteArray} {pos : Nat} {G G' : List (List (List SL))} {r : List SL} (a f : Bool) (hp : pos < s.size) (hp2 : pos < 1000) (hb : (bt s (pos : Int) = 84 ∧ a = true ∧ f = true) ∨ (bt s (pos : Int) = 76 ∧ a = false ∧ f = true) ∨ (bt s (pos : Int) = 82 ∧ a = false ∧ f = false) ∨ (bt s (pos : Int) = 66 ∧ a = true ∧ f = false)) (h1 : Ev (fun k => eB.f k G a f) G') (h2 : Ev (fun k => aA.l2 k s G' (s.size : Int) ((pos + 1 : Nat) : Int)) r) : Ev (fun k => aA.l2 k s G (s.size : Int) (pos : Int)) r := by
 have f1 : (pos : Int) < (s.size : Int) := ltc hp
 have e1 := jH pos (by omega)
 refine Ev.step (f := fun k => (eB.f k G a f).bind fun t => aA.l2 k s t (s.size : Int) ((pos + 1 : Nat) : Int)) (fun k => ?_) (Ev.bind h1 h2)
 rw [aA.l2, if_pos f1, if_pos (nn _), if_pos f1, e1]
 rcases hb with ⟨hb, rfl, rfl⟩ | ⟨hb, rfl, rfl⟩ | ⟨hb, rfl, rfl⟩ | ⟨hb, rfl, rfl⟩
 ·rw [hb, if_pos rfl, if_neg (by decide)]; rfl
 ·rw [hb, if_neg (by decide), if_pos rfl]; rfl
 ·rw [hb, if_neg (by decide), if_neg (by decide)]; rfl
 ·rw [hb, if_neg (by decide), if_neg (by decide)]; rfl
theorem uY (s : ByteArray) (hs : s.size ≤ 6) : ∀ (d pos i j C : Nat) (g : Nat → Nat → List SL), pos + d = s.size → (∀ x ∈ s.data.toList.drop pos, ([76, 82, 84, 66] : List UInt8).contains x = true) → lrc (s.data.toList.drop pos) = i → d = i + j → i ≤ 3 → j ≤ 3 → (∀ y x, y < 2 ^ j → x < 2 ^ i → (g y x).length = C) → C * 2 ^ d ≤ 64 →
  Ev (fun k => aJ.l0 k s (fC (2 ^ j) (2 ^ i) g) (pos : Int)) (iK (s.data.toList.drop pos) (2 ^ j) (2 ^ i) g) ∧ Ev (fun k => aA.l2 k s (fC (2 ^ j) (2 ^ i) g) (s.size : Int) (pos : Int)) (iK (s.data.toList.drop pos) (2 ^ j) (2 ^ i) g) ∧ (iK (s.data.toList.drop pos) (2 ^ j) (2 ^ i) g).length = C * 2 ^ d := by
 have hz : s.size = s.data.toList.length := by simp
 intro d
 induction d with
 | zero =>
  intro pos i j C g hp hall hl hd hi hj hC h64
  obtain rfl : i = 0 := by omega
  obtain rfl : j = 0 := by omega
  rw [List.drop_of_length_le (by omega), iK]
  have n1 : ¬ (pos : Int) < (s.size : Int) := CJ (by omega)
  have a1 : (0 : Int) < ((fC (2 ^ 0) (2 ^ 0) g).length : Int) := by rw [iL]; decide
  have a2 : bJ (fC (2 ^ 0) (2 ^ 0) g) 0 = [g 0 0] := rfl
  have a3 : dY [g 0 0] 0 = g 0 0 := rfl
  have a4 : (0 : Int) < (([g 0 0] : List (List SL)).length : Int) := by show (0 : Int) < 1; decide
  refine ⟨Ev.step (f := fun _ => some (g 0 0)) (fun k => ?_) (Ev.now _), Ev.step (f := fun _ => some (g 0 0)) (fun k => ?_) (Ev.now _), by rw [hC 0 0 (by decide) (by decide)]; omega⟩
  ·rw [aJ.l0, if_neg n1, if_pos a1, a2, if_pos a4, a3]
  ·rw [aA.l2, if_neg n1, if_pos a1, a2, if_pos a4, a3]
 | succ d ih =>
  intro pos i j C g hp hall hl hd hi hj hC h64
  have hil : pos < s.data.toList.length := by omega
  have hdr := List.drop_eq_getElem_cons hil
  have hb := uf s pos (by omega)
  rw [hdr] at hall hl ⊢
  have hc := hall _ List.mem_cons_self
  have hall' := fun x hx => hall x (List.mem_cons_of_mem _ hx)
  rw [kJ] at hl
  generalize s.data.toList[pos] = c at hb hc hl ⊢
  have hCle : C ≤ 32 := by
   have h1 : 1 ≤ 2 ^ d := Nat.one_le_two_pow
   rw [Nat.pow_succ] at h64
   have h2 : C * 2 ≤ C * (2 ^ d * 2) := Nat.mul_le_mul_left _ (by omega)
   omega
  have h64' : (C + C) * 2 ^ d ≤ 64 := by rw [Nat.pow_succ] at h64; rw [Nat.add_mul, ← Nat.two_mul, ← Nat.mul_assoc, Nat.mul_comm 2 C, Nat.mul_assoc, Nat.mul_comm 2]; exact h64
  have hlen' : (C + C) * 2 ^ d = C * 2 ^ (d + 1) := by rw [Nat.pow_succ, Nat.add_mul, ← Nat.two_mul, ← Nat.mul_assoc, Nat.mul_comm 2 C, Nat.mul_assoc, Nat.mul_comm 2]
  by_cases h1 : c = 76 ∨ c = 82
  ·rw [if_pos h1] at hl
   obtain ⟨i, rfl⟩ : ∃ q, i = q + 1 := ⟨i - 1, by omega⟩
   have hW : 2 ^ (i + 1) = 2 * 2 ^ i := by rw [Nat.pow_succ, Nat.mul_comm]
   have hW4 : 2 ^ i ≤ 4 := mE (n := 2) (by omega)
   have hH8 : 2 ^ j ≤ 8 := mE (n := 3) hj
   have hH0 : 0 < 2 ^ j := Nat.pow_pos (by omega)
   rw [iK, if_pos h1, hW, Nat.mul_div_cancel_left _ (by omega : 0 < 2)]
   have hg : ∀ y x, y < 2 ^ j → x < 2 * 2 ^ i → (g y x).length ≤ 64 := fun y x hy hx => by rw [hC y x hy (by rw [hW]; exact hx)]; omega
   have hC' : ∀ y x, y < 2 ^ j → x < 2 ^ i → (gY (c == 76) (2 ^ i) g y x).length = C + C := fun y x hy hx => by
    unfold gY
    rw [List.length_append, iX, hC y _ hy (by rw [hW]; unfold ovr; split <;> omega), hC y _ hy (by rw [hW]; unfold und; split <;> omega)]
   obtain ⟨j1, j2, j3⟩ := ih (pos + 1) i j (C + C) (gY (c == 76) (2 ^ i) g) (by omega) hall' (by omega) (by omega) (by omega) hj hC' h64'
   have a1 := uO (bt s (pos : Int)) hH8 hW4 hg
   have a2 := um (c == 76) ⟨hH0, hH8⟩ hW4 hg
   rcases h1 with rfl | rfl
   ·have hb' : bt s (pos : Int) = 76 := hb
    refine ⟨kv (by omega) (by omega) (.inl hb') a1 ?_, lM false true (by omega) (by omega) (.inr (.inl ⟨hb', rfl, rfl⟩)) a2 j2, j3.trans hlen'⟩
    rw [hb']; exact j1
   ·have hb' : bt s (pos : Int) = 82 := hb
    refine ⟨kv (by omega) (by omega) (.inr hb') a1 ?_, lM false false (by omega) (by omega) (.inr (.inr (.inl ⟨hb', rfl, rfl⟩))) a2 j2, j3.trans hlen'⟩
    rw [hb']; exact j1
  ·rw [if_neg h1] at hl
   have hdj : lrc (s.data.toList.drop (pos + 1)) ≤ d := by
    have := uy (s.data.toList.drop (pos + 1))
    rw [List.length_drop] at this
    omega
   have h2 : c = 84 ∨ c = 66 := by
    simp only [List.contains_cons, List.contains_nil, Bool.or_false, Bool.or_eq_true, beq_iff_eq] at hc
    rcases hc with e | e | e | e
    ·exact (h1 (.inl e)).elim
    ·exact (h1 (.inr e)).elim
    ·exact .inl e
    ·exact .inr e
   obtain ⟨j, rfl⟩ : ∃ q, j = q + 1 := ⟨j - 1, by omega⟩
   have hH : 2 ^ (j + 1) = 2 * 2 ^ j := by rw [Nat.pow_succ, Nat.mul_comm]
   have hH4 : 2 ^ j ≤ 4 := mE (n := 2) (by omega)
   have hW8 : 2 ^ i ≤ 8 := mE (n := 3) hi
   have hH0 : 0 < 2 ^ j := Nat.pow_pos (by omega)
   rw [iK, if_neg h1, hH, Nat.mul_div_cancel_left _ (by omega : 0 < 2)]
   have hg : ∀ y x, y < 2 * 2 ^ j → x < 2 ^ i → (g y x).length ≤ 64 := fun y x hy hx => by rw [hC y x (by rw [hH]; exact hy) hx]; omega
   have hC' : ∀ y x, y < 2 ^ j → x < 2 ^ i → (gN (c == 84) (2 ^ j) g y x).length = C + C := fun y x hy hx => by
    unfold gN
    rw [List.length_append, iX, hC _ x (by rw [hH]; unfold ovr; split <;> omega) hx, hC _ x (by rw [hH]; unfold und; split <;> omega) hx]
   obtain ⟨j1, j2, j3⟩ := ih (pos + 1) i j (C + C) (gN (c == 84) (2 ^ j) g) (by omega) hall' (by omega) (by omega) hi (by omega) hC' h64'
   have a1 := sJ (bt s (pos : Int)) hH4 hW8 hg
   have a2 := rU (c == 84) ⟨hH0, hH4⟩ hW8 hg
   rcases h2 with rfl | rfl
   ·have hb' : bt s (pos : Int) = 84 := hb
    refine ⟨kw (by omega) (by omega) (.inl hb') a1 ?_, lM true true (by omega) (by omega) (.inl ⟨hb', rfl, rfl⟩) a2 j2, j3.trans hlen'⟩
    rw [hb']; exact j1
   ·have hb' : bt s (pos : Int) = 66 := hb
    refine ⟨kw (by omega) (by omega) (.inr hb') a1 ?_, lM true false (by omega) (by omega) (.inr (.inr (.inr ⟨hb', rfl, rfl⟩))) a2 j2, j3.trans hlen'⟩
    rw [hb']; exact j1
theorem wz {a b : Int} {s : ByteArray} {i j : Nat} (hi : i ≤ 3) (hj : j ≤ 3) (ha : a = ((2 ^ i : Nat) : Int)) (hb : b = ((2 ^ j : Nat) : Int)) (hall : ∀ x ∈ s.data.toList, ([76, 82, 84, 66] : List UInt8).contains x = true) (hl : lrc s.data.toList = i) (hn : s.data.toList.length = i + j) :
  Ev (fun k => aJ.f k a b s) (iK s.data.toList (2 ^ j) (2 ^ i) g0) ∧ Ev (fun k => aA.f k a b s) (iK s.data.toList (2 ^ j) (2 ^ i) g0) ∧ (iK s.data.toList (2 ^ j) (2 ^ i) g0).length = 2 ^ (i + j) := by
 have hz : s.size = s.data.toList.length := by simp
 subst ha hb
 have hW8 : 2 ^ i ≤ 8 := mE (n := 3) hi
 have hH8 : 2 ^ j ≤ 8 := mE (n := 3) hj
 obtain ⟨h1, h2, h3⟩ := uY s (by omega) s.size 0 i j 1 g0 (by omega) hall hl (by omega) hi hj (fun _ _ _ _ => rfl) (by rw [Nat.one_mul]; exact mE (n := 6) (by omega))
 rw [List.drop_zero] at h1 h2 h3
 refine ⟨?_, uo s hH8 hW8 _ h2, ?_⟩
 ·unfold aJ.f
  exact Ev.bind (oN hH8 hW8) h1
 ·rw [h3, hz, hn, Nat.one_mul]
def kK (a b : Int) (s : ByteArray) : Prop := ∃ i j : Nat, i ≤ 3 ∧ j ≤ 3 ∧ a = ((2 ^ i : Nat) : Int) ∧ b = ((2 ^ j : Nat) : Int) ∧ (∀ x ∈ s.data.toList, ([76, 82, 84, 66] : List UInt8).contains x = true) ∧ lrc s.data.toList = i ∧ s.data.toList.length = i + j
theorem lQ (a : Int) : (∃ j : Nat, j ≤ 3 ∧ a = ((2 ^ j : Nat) : Int) ∧ bq.f a = some ((j : Int), true) ∧ fq.f a = some true ∧ Ev (fun k => bQ.f k a) (j : Int)) ∨ (bq.f a = some (0, false) ∧ fq.f a = some false) := by
 by_cases h1 : a = 1
 ·subst h1; exact .inl ⟨0, by decide, by decide, by decide +kernel, by decide +kernel, Ev.of (bQ.mono _) (k := 10) (by decide +kernel)⟩
 by_cases h2 : a = 2
 ·subst h2; exact .inl ⟨1, by decide, by decide, by decide +kernel, by decide +kernel, Ev.of (bQ.mono _) (k := 10) (by decide +kernel)⟩
 by_cases h4 : a = 4
 ·subst h4; exact .inl ⟨2, by decide, by decide, by decide +kernel, by decide +kernel, Ev.of (bQ.mono _) (k := 10) (by decide +kernel)⟩
 by_cases h8 : a = 8
 ·subst h8; exact .inl ⟨3, by decide, by decide, by decide +kernel, by decide +kernel, Ev.of (bQ.mono _) (k := 10) (by decide +kernel)⟩
 ·refine .inr ⟨?_, ?_⟩
  ·unfold bq.f
   rw [if_neg h1, if_neg h2, if_neg h4, if_neg h8]
  ·unfold fq.f
   rw [if_neg h1, if_neg h2, if_neg h4, show (a == 8) = false from beq_false_of_ne h8]
theorem rC (cs : List UInt8) : ∀ l : List UInt8, Go.Lib.trimS l cs = [] ↔ ∀ b ∈ l, cs.contains b = true := by
 have dw : ∀ l : List UInt8, l.dropWhile (cs.contains ·) = [] ↔ ∀ b ∈ l, cs.contains b = true := by
  intro l
  induction l with
  | nil => simp
  | cons a t ih =>
   rw [List.dropWhile_cons]
   by_cases h : cs.contains a = true
   ·rw [if_pos h, ih]
    exact ⟨fun g b hb => by rcases List.mem_cons.1 hb with rfl | hb; exact h; exact g b hb, fun g b hb => g b (List.mem_cons_of_mem _ hb)⟩
   ·rw [if_neg h]
    exact ⟨fun g => (List.cons_ne_nil _ _ g).elim, fun g => absurd (g a List.mem_cons_self) h⟩
 intro l
 unfold Go.Lib.trimS Go.Lib.trimLeftS
 rw [dw]
 unfold Go.Lib.trimRightS
 constructor
 ·intro g
  have e : l.reverse.dropWhile (cs.contains ·) = [] := by
   cases hd : l.reverse.dropWhile (cs.contains ·) with
   | nil => rfl
   | cons a t =>
    have h1 := List.head?_dropWhile_not (cs.contains ·) l.reverse
    rw [hd] at h1 g
    have h2 := g a (by simp)
    simp only [List.head?_cons] at h1
    rw [h2] at h1
    cases h1
  intro b hb
  exact (dw l.reverse).1 e b (List.mem_reverse.2 hb)
 ·intro g
  have e := (dw l.reverse).2 (fun b hb => g b (List.mem_reverse.1 hb))
  rw [e]
  intro b hb
  simp at hb
def sL (one two : Bool) : List UInt8 → Int → Int → Bool
 | [], a, b => if one = true then (if two = true then (if a = 0 then b == 0 else false) else false) else false
 | c :: t, a, b => if c = 76 ∨ c = 82 then sL one two t (a - 1) b else if c = 84 ∨ c = 66 then sL one two t a (b - 1) else false
theorem pK (one two : Bool) : ∀ (l : List UInt8) (a b : Int), sL one two l a b = true ↔ (∀ x ∈ l, ([76, 82, 84, 66] : List UInt8).contains x = true) ∧ one = true ∧ two = true ∧ a = (lrc l : Int) ∧ b = (l.length : Int) - (lrc l : Int)
 | [], a, b => by
  rw [sL, show lrc [] = 0 from rfl]
  cases one <;> cases two <;> simp <;> omega
 | c :: t, a, b => by
  rw [sL, kJ, List.length_cons]
  by_cases h1 : c = 76 ∨ c = 82
  ·rw [if_pos h1, if_pos h1, pK one two t]
   have hc : ([76, 82, 84, 66] : List UInt8).contains c = true := by rcases h1 with rfl | rfl <;> decide
   constructor
   ·rintro ⟨g1, g2, g3, g4, g5⟩
    exact ⟨fun x hx => by rcases List.mem_cons.1 hx with rfl | hx; exact hc; exact g1 x hx, g2, g3, by omega, by omega⟩
   ·rintro ⟨g1, g2, g3, g4, g5⟩
    exact ⟨fun x hx => g1 x (List.mem_cons_of_mem _ hx), g2, g3, by omega, by omega⟩
  ·rw [if_neg h1, if_neg h1]
   by_cases h2 : c = 84 ∨ c = 66
   ·rw [if_pos h2, pK one two t]
    have hc : ([76, 82, 84, 66] : List UInt8).contains c = true := by rcases h2 with rfl | rfl <;> decide
    constructor
    ·rintro ⟨g1, g2, g3, g4, g5⟩
     exact ⟨fun x hx => by rcases List.mem_cons.1 hx with rfl | hx; exact hc; exact g1 x hx, g2, g3, by omega, by omega⟩
    ·rintro ⟨g1, g2, g3, g4, g5⟩
     exact ⟨fun x hx => g1 x (List.mem_cons_of_mem _ hx), g2, g3, by omega, by omega⟩
   ·rw [if_neg h2]
    constructor
    ·intro z; cases z
    ·rintro ⟨g1, _⟩
     have := g1 c List.mem_cons_self
     simp only [List.contains_cons, List.contains_nil, Bool.or_false, Bool.or_eq_true, beq_iff_eq] at this
     rcases this with e | e | e | e
     ·exact (h1 (.inl e)).elim
     ·exact (h1 (.inr e)).elim
     ·exact (h2 (.inl e)).elim
     ·exact (h2 (.inr e)).elim
theorem kY (s : ByteArray) (one two : Bool) (hs : s.size ≤ 1048576) : ∀ (d i : Nat), i + d = s.size → ∀ a b : Int, -4000000 ≤ a - (d : Int) → a ≤ 4000000 → -4000000 ≤ b - (d : Int) → b ≤ 4000000 → Ev (fun k => aZ.l0 k s a one b two (i : Int)) (sL one two (s.data.toList.drop i) a b) := by
 have hz : s.size = s.data.toList.length := by simp
 intro d
 induction d with
 | zero =>
  intro i hi a b _ _ _ _
  rw [List.drop_of_length_le (by omega), sL]
  refine Ev.step (f := fun _ => some (if one = true then (if two = true then (if a = 0 then b == 0 else false) else false) else false)) (fun k => ?_) (Ev.now _)
  rw [aZ.l0, if_neg (by omega)]
  cases one <;> cases two <;> by_cases h : a = 0 <;> simp [h]
 | succ d ih =>
  intro i hi a b h1 h2 h3 h4
  have hil : i < s.data.toList.length := by omega
  rw [List.drop_eq_getElem_cons hil, sL]
  have hb := uf s i (by omega)
  generalize s.data.toList[i] = c at hb
  have b76 := qC c 76 (by omega)
  have b82 := qC c 82 (by omega)
  have b84 := qC c 84 (by omega)
  have b66 := qC c 66 (by omega)
  have e76 : bt s (i : Int) = 76 ↔ c = 76 := by rw [hb]; exact b76
  have e82 : bt s (i : Int) = 82 ↔ c = 82 := by rw [hb]; exact b82
  have e84 : bt s (i : Int) = 84 ↔ c = 84 := by rw [hb]; exact b84
  have e66 : bt s (i : Int) = 66 ↔ c = 66 := by rw [hb]; exact b66
  have step : ∀ r, Ev (fun k => aZ.j1 k s a one b two (i : Int) (bt s (i : Int)) (decide (c = 76 ∨ c = 82))) r → Ev (fun k => aZ.l0 k s a one b two (i : Int)) r := by
   intro r hr
   refine Ev.step (fun k => ?_) hr
   rw [aZ.l0, if_pos (by omega), if_pos (by omega)]
   by_cases c1 : bt s (i : Int) = 76
   ·rw [if_pos c1, show ((bt s (i : Int)) == 76) = true from by rw [c1]; rfl, decide_eq_true (.inl (e76.1 c1))]
   ·rw [if_neg c1]
    by_cases c2 : bt s (i : Int) = 82
    ·rw [show ((bt s (i : Int)) == 82) = true from by rw [c2]; rfl, decide_eq_true (.inr (e82.1 c2))]
    ·rw [show ((bt s (i : Int)) == 82) = false from beq_false_of_ne c2, decide_eq_false (fun z => by rcases z with z | z; exact c1 (e76.2 z); exact c2 (e82.2 z))]
  apply step
  by_cases g1 : c = 76 ∨ c = 82
  ·rw [if_pos g1, decide_eq_true g1]
   refine Ev.step (fun k => by rw [aZ.j1, if_pos rfl, jH i (by omega), w64 (x := a - 1) (by omega) (by omega)]) ?_
   exact ih (i + 1) (by omega) _ _ (by omega) (by omega) (by omega) (by omega)
  ·rw [if_neg g1, decide_eq_false g1]
   by_cases g2 : c = 84 ∨ c = 66
   ·rw [if_pos g2]
    refine Ev.step (f := fun k => aZ.l0 k s a one (b - 1) two ((i + 1 : Nat) : Int)) (fun k => ?_) (ih (i + 1) (by omega) _ _ (by omega) (by omega) (by omega) (by omega))
    rw [aZ.j1, if_neg (by simp), jH i (by omega), w64 (x := b - 1) (by omega) (by omega)]
    by_cases c3 : bt s (i : Int) = 84
    ·rw [if_pos c3]
    ·rw [if_neg c3, if_pos (e66.2 (by rcases g2 with z | z; exact (c3 (e84.2 z)).elim; exact z))]
   ·rw [if_neg g2]
    refine Ev.step (f := fun _ => some false) (fun k => ?_) (Ev.now _)
    rw [aZ.j1, if_neg (by simp), if_neg (fun z => g2 (.inl (e84.1 z))), if_neg (fun z => g2 (.inr (e66.1 z)))]
theorem uq (a b : Int) (s : ByteArray) (hs : s.size ≤ 1048576) : ∃ v : Bool, Ev (fun k => aZ.f k a b s) v ∧ Ev (fun k => ek.f k a b s) v ∧ (v = true → ∃ i j : Nat, i ≤ 3 ∧ j ≤ 3 ∧ a = ((2 ^ i : Nat) : Int) ∧ b = ((2 ^ j : Nat) : Int) ∧ (∀ x ∈ s.data.toList, ([76, 82, 84, 66] : List UInt8).contains x = true) ∧ lrc s.data.toList = i ∧ s.data.toList.length = i + j) := by
 have hz : s.size = s.data.toList.length := by simp
 have hle := uy s.data.toList
 have spec : ∀ (i j : Nat) (one two : Bool), i ≤ 3 → j ≤ 3 → bq.f a = some ((i : Int), one) → bq.f b = some ((j : Int), two) → Ev (fun k => aZ.f k a b s) (sL one two s.data.toList (i : Int) (j : Int)) := by
  intro i j one two hi hj p1 p2
  unfold aZ.f
  rw [p1, p2]
  refine Ev.bind (Ev.now _) (Ev.bind (Ev.now _) ?_)
  have := kY s one two hs s.size 0 (by omega) (i : Int) (j : Int) (by omega) (by omega) (by omega) (by omega)
  rw [List.drop_zero] at this
  exact Ev.congr (fun k => rfl) this
 have no : ∀ (i j : Nat) (one two : Bool), (one = false ∨ two = false) → sL one two s.data.toList (i : Int) (j : Int) = false := by
  intro i j one two h
  rw [Bool.eq_false_iff]
  intro z
  obtain ⟨_, z1, z2, _⟩ := (pK _ _ _ _ _).1 z
  rcases h with h | h
  ·rw [h] at z1; cases z1
  ·rw [h] at z2; cases z2
 have bad : dP.f a b = some false → Ev (fun k => ek.f k a b s) false := by
  intro h
  unfold ek.f
  rw [h]
  exact Ev.bind (Ev.now _) (dW (by simp) (Ev.now _))
 rcases lQ a with ⟨i, i1, i2, i3, i4, i5⟩ | ⟨i3, i4⟩
 ·rcases lQ b with ⟨j, j1, j2, j3, j4, j5⟩ | ⟨j3, j4⟩
  ·have hsh : dP.f a b = some true := by unfold dP.f; rw [i4, j4]; rfl
   refine ⟨_, spec i j true true i1 j1 i3 j3, ?_, ?_⟩
   ·unfold ek.f
    rw [hsh]
    refine Ev.bind (Ev.now _) (bC rfl (bC hs ?_))
    have hiff := pK true true s.data.toList (i : Int) (j : Int)
    have hlr : kW s = lrc s.data.toList := rfl
    by_cases ht : Go.Lib.trimS s.data.toList [76, 82, 84, 66] = []
    ·refine bC ht (Ev.bind i5 ?_)
     have hall := (rC _ _).1 ht
     by_cases hc : (kW s : Int) = (i : Int)
     ·refine bC hc (Ev.bind j5 ?_)
      have e : sL true true s.data.toList (i : Int) (j : Int) = decide ((s.size : Int) - (kW s : Int) = (j : Int)) := by
       rw [Bool.eq_iff_iff, hiff, decide_eq_true_iff]
       constructor
       ·rintro ⟨_, _, _, g1, g2⟩
        rw [hz, hlr, g2]
       ·intro g
        exact ⟨hall, rfl, rfl, by rw [← hlr, hc], by rw [← hlr, ← hz, g]⟩
      rw [e]
      exact Ev.now _
     ·rw [show sL true true s.data.toList (i : Int) (j : Int) = false from by
       rw [Bool.eq_false_iff]; intro z
       obtain ⟨_, _, _, z4, _⟩ := hiff.1 z
       exact hc (by rw [hlr, z4])]
      exact dW hc (Ev.now _)
    ·rw [show sL true true s.data.toList (i : Int) (j : Int) = false from by
      rw [Bool.eq_false_iff]; intro z
      exact ht ((rC _ _).2 (hiff.1 z).1)]
     exact dW ht (Ev.now _)
   ·intro z
    obtain ⟨z1, _, _, z4, z5⟩ := (pK _ _ _ _ _).1 z
    exact ⟨i, j, i1, j1, i2, j2, z1, by omega, by omega⟩
  ·have hsh : dP.f a b = some false := by unfold dP.f; rw [i4, j4]; rfl
   have e := spec i 0 true false i1 (by omega) i3 j3
   rw [no i 0 true false (.inr rfl)] at e
   exact ⟨false, e, bad hsh, fun z => by cases z⟩
 ·have hsh : dP.f a b = some false := by unfold dP.f; rw [i4]; rfl
  rcases lQ b with ⟨j, j1, j2, j3, j4, j5⟩ | ⟨j3, j4⟩
  ·have e := spec 0 j false true (by omega) j1 i3 j3
   rw [no 0 j false true (.inl rfl)] at e
   exact ⟨false, e, bad hsh, fun z => by cases z⟩
  ·have e := spec 0 0 false false (by omega) (by omega) i3 j3
   rw [no 0 0 false false (.inl rfl)] at e
   exact ⟨false, e, bad hsh, fun z => by cases z⟩
def jf : Nat → (Nat → Nat) → Nat
 | 0, _ => 0
 | n + 1, f => jf n f + f n
theorem iG {n : Nat} {f g : Nat → Nat} (h : ∀ i, i < n → f i = g i) : jf n f = jf n g := by
 induction n with
 | zero => rfl
 | succ n ih => rw [jf, jf, ih (fun i hi => h i (by omega)), h n (by omega)]
theorem tN (m n : Nat) (f : Nat → Nat) : jf (m + n) f = jf m f + jf n (fun i => f (m + i)) := by
 induction n with
 | zero => rfl
 | succ n ih => rw [← Nat.add_assoc, jf, ih, jf]; omega
theorem vL (n : Nat) (f : Nat → Nat) : jf n f = jf n (fun i => f (n - 1 - i)) := by
 induction n generalizing f with
 | zero => rfl
 | succ n ih =>
  rw [jf, ih f, Nat.add_comm n 1, tN 1 n]
  show _ = (0 + f (1 + n - 1 - 0)) + _
  rw [show 1 + n - 1 - 0 = n by omega, Nat.zero_add, Nat.add_comm]
  congr 1
  exact iG (fun i hi => by rw [show 1 + n - 1 - (1 + i) = n - 1 - i by omega])
theorem vJ (n : Nat) (f g : Nat → Nat) : jf n (fun i => f i + g i) = jf n f + jf n g := by
 induction n with
 | zero => rfl
 | succ n ih => rw [jf, jf, jf, ih]; omega
theorem tL (b : Bool) (n : Nat) (f : Nat → Nat) : jf (2 * n) f = jf n (fun i => f (ovr b n i) + f (und b n i)) := by
 rw [vJ, Nat.two_mul, tN]
 cases b
 ·rw [show jf n (fun i => f (und false n i)) = jf n f from rfl, vL n (fun i => f (n + i)), Nat.add_comm]
  congr 1
  exact iG (fun i hi => by show f (n + (n - 1 - i)) = f (2 * n - 1 - i); rw [show n + (n - 1 - i) = 2 * n - 1 - i by omega])
 ·rw [show jf n (fun i => f (und true n i)) = jf n (fun i => f (n + i)) from rfl, vL n f]
  rfl
theorem rD {P : SL → Bool} (hP : ∀ a x, P (bS.jB a x) = P x) (a : Bool) (l : List SL) : (jQ a l).countP P = l.countP P := by
 unfold jQ
 rw [List.countP_map, List.countP_reverse]
 congr 1
 funext x
 exact hP a x
def qV (P : SL → Bool) (H W : Nat) (g : Nat → Nat → List SL) : Nat := jf H (fun y => jf W (fun x => (g y x).countP P))
theorem wo {P : SL → Bool} (hP : ∀ a x, P (bS.jB a x) = P x) (b : Bool) (H W : Nat) (g : Nat → Nat → List SL) : qV P H W (gY b W g) = qV P H (2 * W) g := by
 unfold qV
 refine iG (fun y _ => ?_)
 rw [tL b]
 refine iG (fun x _ => ?_)
 unfold gY
 rw [List.countP_append, rD hP]
theorem uU {P : SL → Bool} (hP : ∀ a x, P (bS.jB a x) = P x) (b : Bool) (H W : Nat) (g : Nat → Nat → List SL) : qV P H W (gN b H g) = qV P (2 * H) W g := by
 unfold qV
 rw [tL b]
 refine iG (fun y _ => ?_)
 rw [← vJ]
 refine iG (fun x _ => ?_)
 unfold gN
 rw [List.countP_append, rD hP]
theorem kU {P : SL → Bool} (hP : ∀ a x, P (bS.jB a x) = P x) : ∀ (t : List UInt8) (i j : Nat) (g : Nat → Nat → List SL), lrc t = i → t.length = i + j → (iK t (2 ^ j) (2 ^ i) g).countP P = qV P (2 ^ j) (2 ^ i) g
 | [], i, j, g, h1, h2 => by
  obtain rfl : i = 0 := by rw [← h1]; rfl
  obtain rfl : j = 0 := by simpa using h2.symm
  show (g 0 0).countP P = 0 + (0 + (g 0 0).countP P)
  omega
 | c :: t, i, j, g, h1, h2 => by
  rw [kJ] at h1
  rw [List.length_cons] at h2
  have hle := uy t
  rw [iK]
  by_cases hc : c = 76 ∨ c = 82
  ·rw [if_pos hc] at h1
   obtain ⟨i, rfl⟩ : ∃ q, i = q + 1 := ⟨i - 1, by omega⟩
   rw [if_pos hc, Nat.pow_succ 2 i, Nat.mul_comm (2 ^ i) 2, Nat.mul_div_cancel_left _ (by omega : 0 < 2), kU hP t i j _ (by omega) (by omega), wo hP]
  ·rw [if_neg hc] at h1
   obtain ⟨j, rfl⟩ : ∃ q, j = q + 1 := ⟨j - 1, by omega⟩
   rw [if_neg hc, Nat.pow_succ 2 j, Nat.mul_comm (2 ^ j) 2, Nat.mul_div_cancel_left _ (by omega : 0 < 2), kU hP t i j _ (by omega) (by omega), uU hP]
def atL (x y : Int) (v : SL) : Bool := if v.f0 = x then v.f1 == y else false
theorem yx (x y : Int) (a : Bool) (v : SL) : atL x y (bS.jB a v) = atL x y v := by cases a <;> rfl
theorem vK (n a : Nat) (h : a < n) (c : Nat) : jf n (fun i => if i = a then c else 0) = c := by
 have hz : ∀ m, m ≤ a → jf m (fun i => if i = a then c else 0) = 0 := by
  intro m
  induction m with
  | zero => intro _; rfl
  | succ m ih => intro hm; rw [jf, ih (by omega), if_neg (by omega)]
 induction n with
 | zero => omega
 | succ n ih =>
  rw [jf]
  by_cases he : n = a
  ·rw [if_pos he, hz n (by omega), Nat.zero_add]
  ·rw [if_neg he, ih (by omega), Nat.add_zero]
theorem vI (H W x y : Nat) (hx : x < W) (hy : y < H) : qV (atL (x : Int) (y : Int)) H W g0 = 1 := by
 unfold qV
 rw [← vK H y hy 1]
 refine iG (fun j _ => ?_)
 by_cases hj : j = y
 ·subst hj
  rw [if_pos rfl, ← vK W x hx 1]
  refine iG (fun i _ => ?_)
  unfold g0 atL
  by_cases hi : i = x
  ·subst hi; simp
  ·rw [if_neg hi]
   have : ¬ ((i : Int) = (x : Int)) := by omega
   simp [this]
 ·rw [if_neg hj]
  rw [show jf W (fun i => (g0 j i).countP (atL (x : Int) (y : Int))) = jf W (fun _ => 0) from iG (fun i _ => by
   unfold g0 atL
   have : ¬ ((j : Int) = (y : Int)) := by omega
   simp [this])]
  have hz : ∀ m, jf m (fun _ => 0) = 0 := by
   intro m
   induction m with
   | zero => rfl
   | succ m ih => rw [jf, ih]
  exact hz W
theorem vZ {s : List UInt8} {i j x y : Nat} (hl : lrc s = i) (hn : s.length = i + j) (hx : x < 2 ^ i) (hy : y < 2 ^ j) : (iK s (2 ^ j) (2 ^ i) g0).countP (atL (x : Int) (y : Int)) = 1 := by
 rw [kU (yx _ _) s i j g0 hl hn, vI _ _ x y hx hy]
theorem uD {l : List SL} {i : Nat} (h : i < l.length) : aa l (i : Int) = l[i] := by
 unfold aa
 rw [Int.toNat_natCast, List.getD_eq_getElem?_getD, List.getElem?_eq_getElem h]
 rfl
def dnL (x : SL) : Bool := x.f2 != x.f3
def wC (W H : Nat) (v : SL) : Bool := !decide (0 ≤ v.f0 ∧ v.f0 < (W : Int) ∧ 0 ≤ v.f1 ∧ v.f1 < (H : Int))
theorem xC (W H : Nat) (a : Bool) (v : SL) : wC W H (bS.jB a v) = wC W H v := by cases a <;> rfl
theorem tO (m : Nat) : jf m (fun _ => 0) = 0 := by
 induction m with
 | zero => rfl
 | succ m ih => rw [jf, ih]
theorem wW {s : List UInt8} {i j : Nat} (hl : lrc s = i) (hn : s.length = i + j) : ∀ v ∈ iK s (2 ^ j) (2 ^ i) g0, 0 ≤ v.f0 ∧ v.f0 < ((2 ^ i : Nat) : Int) ∧ 0 ≤ v.f1 ∧ v.f1 < ((2 ^ j : Nat) : Int) := by
 have h := kU (xC (2 ^ i) (2 ^ j)) s i j g0 hl hn
 have hz : qV (wC (2 ^ i) (2 ^ j)) (2 ^ j) (2 ^ i) g0 = 0 := by
  unfold qV
  rw [← tO (2 ^ j)]
  refine iG (fun y hy => ?_)
  rw [← tO (2 ^ i)]
  refine iG (fun x hx => ?_)
  have hp : wC (2 ^ i) (2 ^ j) ⟨(x : Int), (y : Int), false, false⟩ = false := by
   unfold wC
   rw [decide_eq_true ⟨nn x, ltc hx, nn y, ltc hy⟩]
   rfl
  show ([⟨(x : Int), (y : Int), false, false⟩] : List SL).countP (wC (2 ^ i) (2 ^ j)) = 0
  rw [List.countP_cons, hp]
  rfl
 rw [hz, List.countP_eq_zero] at h
 intro v hv
 have := h v hv
 unfold wC at this
 simpa using this
theorem zI (a : Bool) (v : SL) : dnL (bS.jB a v) = !dnL v := by
 obtain ⟨_, _, c, d⟩ := v
 cases a <;> cases c <;> cases d <;> rfl
theorem qE (a : Bool) (l : List SL) : (jQ a l).countP dnL + l.countP dnL = l.length := by
 unfold jQ
 rw [List.countP_map, List.countP_reverse]
 induction l with
 | nil => rfl
 | cons x t ih =>
  rw [List.countP_cons, List.countP_cons, List.length_cons]
  have e : (dnL ∘ bS.jB a) x = !dnL x := zI a x
  rw [e]
  cases hd : dnL x with
  | true => rw [if_neg (by decide), if_pos rfl]; omega
  | false => rw [if_pos (by decide), if_neg (by decide)]; omega
def qK (g : Nat → Nat → List SL) (m : Nat) : Prop := ∀ y x, (g y x).length = m ∧ 2 * (g y x).countP dnL = m
theorem wu {g : Nat → Nat → List SL} {m : Nat} (f : Bool) (W : Nat) (h : qK g m) : qK (gY f W g) (2 * m) := by
 intro y x
 unfold gY
 have h1 := qE true (g y (ovr f W x))
 have h2 := h y (ovr f W x)
 have h3 := h y (und f W x)
 rw [List.length_append, iX, List.countP_append]
 omega
theorem uV {g : Nat → Nat → List SL} {m : Nat} (f : Bool) (H : Nat) (h : qK g m) : qK (gN f H g) (2 * m) := by
 intro y x
 unfold gN
 have h1 := qE false (g (ovr f H y) x)
 have h2 := h (ovr f H y) x
 have h3 := h (und f H y) x
 rw [List.length_append, iX, List.countP_append]
 omega
theorem ni : ∀ (t : List UInt8) (H W m : Nat) (g : Nat → Nat → List SL), qK g m → 2 * (iK t H W g).countP dnL = (iK t H W g).length
 | [], H, W, m, g, h => by rw [iK, (h 0 0).1]; exact (h 0 0).2
 | c :: t, H, W, m, g, h => by
  rw [iK]
  split
  ·exact ni t _ _ _ _ (wu _ _ h)
  ·exact ni t _ _ _ _ (uV _ _ h)
theorem ul (y x : Nat) : (g0 y x).length = 1 ∧ (g0 y x).countP dnL = 0 := ⟨rfl, rfl⟩
theorem ww (c : UInt8) (t : List UInt8) (H W : Nat) : 2 * (iK (c :: t) H W g0).countP dnL = (iK (c :: t) H W g0).length := by
 rw [iK]
 split
 ·refine ni t _ _ 2 _ (fun y x => ?_)
  unfold gY
  have h1 := qE true (g0 y (ovr (c == 76) (W / 2) x))
  have h2 := ul y (ovr (c == 76) (W / 2) x)
  have h3 := ul y (und (c == 76) (W / 2) x)
  rw [List.length_append, iX, List.countP_append]
  omega
 ·refine ni t _ _ 2 _ (fun y x => ?_)
  unfold gN
  have h1 := qE false (g0 (ovr (c == 84) (H / 2) y) x)
  have h2 := ul (ovr (c == 84) (H / 2) y) x
  have h3 := ul (und (c == 84) (H / 2) y) x
  rw [List.length_append, iX, List.countP_append]
  omega
theorem xz {a b : Int} {s : ByteArray} (h : kK a b s) : ∃ l : List SL, Ev (fun k => aJ.f k a b s) l ∧ Ev (fun k => aA.f k a b s) l ∧ l.length ≤ 64 ∧ (l.length : Int) = a * b ∧ wrap64 (a * b) = a * b ∧ (∀ x y : Int, 0 ≤ x → x < a → 0 ≤ y → y < b → l.countP (atL x y) = 1) ∧ (∀ v ∈ l, 0 ≤ v.f0 ∧ v.f0 < a ∧ 0 ≤ v.f1 ∧ v.f1 < b) ∧ (s.data.toList = [] ∨ 2 * l.countP dnL = l.length) := by
 obtain ⟨i, j, hi, hj, ha, hb, hall, hl, hn⟩ := h
 obtain ⟨h1, h2, h3⟩ := wz hi hj ha hb hall hl hn
 have h64 : 2 ^ (i + j) ≤ 64 := mE (n := 6) (by omega)
 have hab : ((2 ^ (i + j) : Nat) : Int) = a * b := by
  rw [ha, hb, Nat.pow_add]
  exact Int.natCast_mul _ _
 refine ⟨_, h1, h2, by rw [h3]; exact h64, by rw [h3]; exact hab, ?_, ?_, ?_, ?_⟩
 ·rw [← hab]
  generalize 2 ^ (i + j) = q at h64
  exact w64 (by omega) (by omega)
 ·intro x y x0 x1 y0 y1
  obtain ⟨x, rfl⟩ := Int.eq_ofNat_of_zero_le x0
  obtain ⟨y, rfl⟩ := Int.eq_ofNat_of_zero_le y0
  rw [ha] at x1
  rw [hb] at y1
  exact vZ hl hn (Int.ofNat_lt.1 x1) (Int.ofNat_lt.1 y1)
 ·rw [ha, hb]
  exact wW hl hn
 ·cases hs : s.data.toList with
  | nil => exact .inl rfl
  | cons c t => exact .inr (ww c t _ _)
theorem uu (s : ByteArray) (hs : s.size ≤ 6) : ∀ (d pos i j C : Nat) (g : Nat → Nat → List SL), pos + d = s.size → (∀ x ∈ s.data.toList.drop pos, ([76, 82, 84, 66] : List UInt8).contains x = true) → lrc (s.data.toList.drop pos) = i → d = i + j → i ≤ 3 → j ≤ 3 → (∀ y x, y < 2 ^ j → x < 2 ^ i → (g y x).length = C) → C * 2 ^ d ≤ 64 →
  Ev (fun k => aJ.l0 k s (fC (2 ^ j) (2 ^ i) g) (pos : Int)) (iK (s.data.toList.drop pos) (2 ^ j) (2 ^ i) g) ∧ (iK (s.data.toList.drop pos) (2 ^ j) (2 ^ i) g).length = C * 2 ^ d := by
 have hz : s.size = s.data.toList.length := by simp
 intro d
 induction d with
 | zero =>
  intro pos i j C g hp hall hl hd hi hj hC h64
  obtain rfl : i = 0 := by omega
  obtain rfl : j = 0 := by omega
  rw [List.drop_of_length_le (by omega), iK]
  have n1 : ¬ (pos : Int) < (s.size : Int) := CJ (by omega)
  have a1 : (0 : Int) < ((fC (2 ^ 0) (2 ^ 0) g).length : Int) := by rw [iL]; decide
  have a2 : bJ (fC (2 ^ 0) (2 ^ 0) g) 0 = [g 0 0] := rfl
  have a3 : dY [g 0 0] 0 = g 0 0 := rfl
  have a4 : (0 : Int) < (([g 0 0] : List (List SL)).length : Int) := by show (0 : Int) < 1; decide
  refine ⟨Ev.step (f := fun _ => some (g 0 0)) (fun k => ?_) (Ev.now _), by rw [hC 0 0 (by decide) (by decide)]; omega⟩
  rw [aJ.l0, if_neg n1, if_pos a1, a2, if_pos a4, a3]
 | succ d ih =>
  intro pos i j C g hp hall hl hd hi hj hC h64
  have hil : pos < s.data.toList.length := by omega
  have hdr := List.drop_eq_getElem_cons hil
  have hb := uf s pos (by omega)
  rw [hdr] at hall hl ⊢
  have hc := hall _ List.mem_cons_self
  have hall' := fun x hx => hall x (List.mem_cons_of_mem _ hx)
  rw [kJ] at hl
  generalize s.data.toList[pos] = c at hb hc hl ⊢
  have hCle : C ≤ 32 := by
   have h1 : 1 ≤ 2 ^ d := Nat.one_le_two_pow
   rw [Nat.pow_succ] at h64
   have h2 : C * 2 ≤ C * (2 ^ d * 2) := Nat.mul_le_mul_left _ (by omega)
   omega
  have h64' : (C + C) * 2 ^ d ≤ 64 := by rw [Nat.pow_succ] at h64; rw [Nat.add_mul, ← Nat.two_mul, ← Nat.mul_assoc, Nat.mul_comm 2 C, Nat.mul_assoc, Nat.mul_comm 2]; exact h64
  have hlen' : (C + C) * 2 ^ d = C * 2 ^ (d + 1) := by rw [Nat.pow_succ, Nat.add_mul, ← Nat.two_mul, ← Nat.mul_assoc, Nat.mul_comm 2 C, Nat.mul_assoc, Nat.mul_comm 2]
  by_cases h1 : c = 76 ∨ c = 82
  ·rw [if_pos h1] at hl
   obtain ⟨i, rfl⟩ : ∃ q, i = q + 1 := ⟨i - 1, by omega⟩
   have hW : 2 ^ (i + 1) = 2 * 2 ^ i := by rw [Nat.pow_succ, Nat.mul_comm]
   have hW4 : 2 ^ i ≤ 4 := mE (n := 2) (by omega)
   have hH8 : 2 ^ j ≤ 8 := mE (n := 3) hj
   have hH0 : 0 < 2 ^ j := Nat.pow_pos (by omega)
   rw [iK, if_pos h1, hW, Nat.mul_div_cancel_left _ (by omega : 0 < 2)]
   have hg : ∀ y x, y < 2 ^ j → x < 2 * 2 ^ i → (g y x).length ≤ 64 := fun y x hy hx => by rw [hC y x hy (by rw [hW]; exact hx)]; omega
   have hC' : ∀ y x, y < 2 ^ j → x < 2 ^ i → (gY (c == 76) (2 ^ i) g y x).length = C + C := fun y x hy hx => by
    unfold gY
    rw [List.length_append, iX, hC y _ hy (by rw [hW]; unfold ovr; split <;> omega), hC y _ hy (by rw [hW]; unfold und; split <;> omega)]
   obtain ⟨j1, j3⟩ := ih (pos + 1) i j (C + C) (gY (c == 76) (2 ^ i) g) (by omega) hall' (by omega) (by omega) (by omega) hj hC' h64'
   have a1 := uO (bt s (pos : Int)) hH8 hW4 hg
   rcases h1 with rfl | rfl
   ·have hb' : bt s (pos : Int) = 76 := hb
    refine ⟨kv (by omega) (by omega) (.inl hb') a1 ?_, j3.trans hlen'⟩
    rw [hb']; exact j1
   ·have hb' : bt s (pos : Int) = 82 := hb
    refine ⟨kv (by omega) (by omega) (.inr hb') a1 ?_, j3.trans hlen'⟩
    rw [hb']; exact j1
  ·rw [if_neg h1] at hl
   have hdj : lrc (s.data.toList.drop (pos + 1)) ≤ d := by
    have := uy (s.data.toList.drop (pos + 1))
    rw [List.length_drop] at this
    omega
   have h2 : c = 84 ∨ c = 66 := by
    simp only [List.contains_cons, List.contains_nil, Bool.or_false, Bool.or_eq_true, beq_iff_eq] at hc
    rcases hc with e | e | e | e
    ·exact (h1 (.inl e)).elim
    ·exact (h1 (.inr e)).elim
    ·exact .inl e
    ·exact .inr e
   obtain ⟨j, rfl⟩ : ∃ q, j = q + 1 := ⟨j - 1, by omega⟩
   have hH : 2 ^ (j + 1) = 2 * 2 ^ j := by rw [Nat.pow_succ, Nat.mul_comm]
   have hH4 : 2 ^ j ≤ 4 := mE (n := 2) (by omega)
   have hW8 : 2 ^ i ≤ 8 := mE (n := 3) hi
   have hH0 : 0 < 2 ^ j := Nat.pow_pos (by omega)
   rw [iK, if_neg h1, hH, Nat.mul_div_cancel_left _ (by omega : 0 < 2)]
   have hg : ∀ y x, y < 2 * 2 ^ j → x < 2 ^ i → (g y x).length ≤ 64 := fun y x hy hx => by rw [hC y x (by rw [hH]; exact hy) hx]; omega
   have hC' : ∀ y x, y < 2 ^ j → x < 2 ^ i → (gN (c == 84) (2 ^ j) g y x).length = C + C := fun y x hy hx => by
    unfold gN
    rw [List.length_append, iX, hC _ x (by rw [hH]; unfold ovr; split <;> omega) hx, hC _ x (by rw [hH]; unfold und; split <;> omega) hx]
   obtain ⟨j1, j3⟩ := ih (pos + 1) i j (C + C) (gN (c == 84) (2 ^ j) g) (by omega) hall' (by omega) (by omega) hi (by omega) hC' h64'
   have a1 := sJ (bt s (pos : Int)) hH4 hW8 hg
   rcases h2 with rfl | rfl
   ·have hb' : bt s (pos : Int) = 84 := hb
    refine ⟨kw (by omega) (by omega) (.inl hb') a1 ?_, j3.trans hlen'⟩
    rw [hb']; exact j1
   ·have hb' : bt s (pos : Int) = 66 := hb
    refine ⟨kw (by omega) (by omega) (.inr hb') a1 ?_, j3.trans hlen'⟩
    rw [hb']; exact j1
theorem uZ {a b : Int} {s : ByteArray} (h : kK a b s) : ∃ (i j : Nat), i ≤ 3 ∧ j ≤ 3 ∧ a = ((2 ^ i : Nat) : Int) ∧ b = ((2 ^ j : Nat) : Int) ∧ lrc s.data.toList = i ∧ s.data.toList.length = i + j ∧ Ev (fun k => aJ.f k a b s) (iK s.data.toList (2 ^ j) (2 ^ i) g0) ∧ (iK s.data.toList (2 ^ j) (2 ^ i) g0).length = 2 ^ (i + j) := by
 obtain ⟨i, j, hi, hj, ha, hb, hall, hl, hn⟩ := h
 have hz : s.size = s.data.toList.length := by simp
 refine ⟨i, j, hi, hj, ha, hb, hl, hn, ?_⟩
 subst ha hb
 have hW8 : 2 ^ i ≤ 8 := mE (n := 3) hi
 have hH8 : 2 ^ j ≤ 8 := mE (n := 3) hj
 obtain ⟨h1, h3⟩ := uu s (by omega) s.size 0 i j 1 g0 (by omega) hall hl (by omega) hi hj (fun _ _ _ _ => rfl) (by rw [Nat.one_mul]; exact mE (n := 6) (by omega))
 rw [List.drop_zero] at h1 h3
 refine ⟨?_, ?_⟩
 ·unfold aJ.f
  exact Ev.bind (oN hH8 hW8) h1
 ·rw [h3, hz, hn, Nat.one_mul]
theorem wD (a : Int) : (∃ j : Nat, j ≤ 3 ∧ a = ((2 ^ j : Nat) : Int) ∧ bq.f a = some ((j : Int), true)) ∨ bq.f a = some (0, false) := by
 unfold bq.f
 by_cases h1 : a = 1
 ·exact .inl ⟨0, by decide, h1, if_pos h1⟩
 by_cases h2 : a = 2
 ·exact .inl ⟨1, by decide, h2, by rw [if_neg h1, if_pos h2]; rfl⟩
 by_cases h4 : a = 4
 ·exact .inl ⟨2, by decide, h4, by rw [if_neg h1, if_neg h2, if_pos h4]; rfl⟩
 by_cases h8 : a = 8
 ·exact .inl ⟨3, by decide, h8, by rw [if_neg h1, if_neg h2, if_neg h4, if_pos h8]; rfl⟩
 ·exact .inr (by rw [if_neg h1, if_neg h2, if_neg h4, if_neg h8])
theorem Al (a b : Int) (s : ByteArray) (hs : s.size ≤ 1048576) : ∃ c : Int, Ev (fun k => fA.f k a b s) c ∧ 0 ≤ c ∧ c ≤ 2 ∧ (c = 0 → kK a b s) := by
 have bad : dE.f a b = some false → Ev (fun k => fA.f k a b s) 1 := fun h => by
  unfold fA.f
  rw [h]
  exact Ev.bind (Ev.now _) (dW (by simp) (Ev.now _))
 rcases wD a with ⟨i, i1, i2, i3⟩ | i3
 ·rcases wD b with ⟨j, j1, j2, j3⟩ | j3
  ·have hsh : dE.f a b = some true := by unfold dE.f; rw [i3, j3]; rfl
   have e := kY s true true hs s.size 0 (by omega) (i : Int) (j : Int) (by omega) (by omega) (by omega) (by omega)
   rw [List.drop_zero] at e
   have e2 : Ev (fun k => aZ.f k a b s) (sL true true s.data.toList (i : Int) (j : Int)) := by
    unfold aZ.f
    rw [i3, j3]
    exact Ev.bind (Ev.now _) (Ev.bind (Ev.now _) e)
   have hiff := pK true true s.data.toList (i : Int) (j : Int)
   generalize sL true true s.data.toList (i : Int) (j : Int) = v at e2 hiff
   cases v with
   | true =>
    obtain ⟨g1, _, _, g4, g5⟩ := hiff.1 rfl
    refine ⟨0, ?_, by omega, by omega, fun _ => ⟨i, j, i1, j1, i2, j2, g1, by omega, by omega⟩⟩
    unfold fA.f
    rw [hsh]
    exact Ev.bind (Ev.now _) (bC rfl (Ev.bind e2 (bC rfl (Ev.now _))))
   | false =>
    refine ⟨2, ?_, by omega, by omega, fun z => by cases z⟩
    unfold fA.f
    rw [hsh]
    exact Ev.bind (Ev.now _) (bC rfl (Ev.bind e2 (dW (by simp) (Ev.now _))))
  ·exact ⟨1, bad (by unfold dE.f; rw [i3, j3]; rfl), by omega, by omega, fun z => by cases z⟩
 ·refine ⟨1, bad ?_, by omega, by omega, fun z => by cases z⟩
  unfold dE.f
  rw [i3]
  rcases wD b with ⟨j, j1, j2, j3⟩ | j3 <;> (rw [j3]; rfl)
def dn5 (v : SL) : Bool := v.f2 != v.f3
def kF (a : Nat) (i : Nat) (v : SL) (x : List Int × List Int × List Int) : List Int × List Int × List Int :=
 (x.1.set (v.f1.toNat * a + v.f0.toNat) (if dn5 v = true then 2 * (i : Int) + 2 else 2 * (i : Int) + 1), x.2.1.set (v.f1.toNat * a + a - 1 - v.f0.toNat) (if dn5 v = true then 2 * (i : Int) + 1 else 2 * (i : Int) + 2), if v.f3 = true then x.2.2.set (v.f1.toNat * a + v.f0.toNat) 1 else x.2.2)
def ma (a : Nat) : List SL → Nat → List Int × List Int × List Int → List Int × List Int × List Int
 | [], _, x => x
 | v :: t, i, x => ma a t (i + 1) (kF a i v x)
theorem sP (a i : Nat) (v : SL) (x : List Int × List Int × List Int) : (kF a i v x).1.length = x.1.length ∧ (kF a i v x).2.1.length = x.2.1.length ∧ (kF a i v x).2.2.length = x.2.2.length := by
 unfold kF
 refine ⟨by simp, by simp, ?_⟩
 by_cases h : v.f3 = true
 ·rw [if_pos h]; simp
 ·rw [if_neg h]
theorem qU (a : Nat) : ∀ (l : List SL) (i : Nat) (x : List Int × List Int × List Int), (ma a l i x).1.length = x.1.length ∧ (ma a l i x).2.1.length = x.2.1.length ∧ (ma a l i x).2.2.length = x.2.2.length
 | [], _, _ => ⟨rfl, rfl, rfl⟩
 | v :: t, i, x => by
  have h1 := qU a t (i + 1) (kF a i v x)
  have h2 := sP a i v x
  exact ⟨h1.1.trans h2.1, h1.2.1.trans h2.2.1, h1.2.2.trans h2.2.2⟩
theorem uR {A C : Nat} {v : SL} (hA : A ≤ 8) (hC : C ≤ 8) (h0 : 0 ≤ v.f0) (h1 : v.f0 < (A : Int)) (h2 : 0 ≤ v.f1) (h3 : v.f1 < (C : Int)) :
  wrap64 (wrap64 (v.f1 * (A : Int)) + v.f0) = ((v.f1.toNat * A + v.f0.toNat : Nat) : Int) ∧ wrap64 (wrap64 (wrap64 (wrap64 (v.f1 * (A : Int)) + (A : Int)) - 1) - v.f0) = ((v.f1.toNat * A + A - 1 - v.f0.toNat : Nat) : Int) ∧ v.f1.toNat * A + v.f0.toNat < A * C ∧ v.f1.toNat * A + A - 1 - v.f0.toNat < A * C := by
 obtain ⟨f0, f1, f2, f3⟩ := v
 simp only at h0 h1 h2 h3 ⊢
 obtain ⟨x, rfl⟩ := Int.eq_ofNat_of_zero_le h0
 obtain ⟨y, rfl⟩ := Int.eq_ofNat_of_zero_le h2
 have hx : x < A := Int.ofNat_lt.1 h1
 have hy : y < C := Int.ofNat_lt.1 h3
 have e3 : (y : Int) * (A : Int) = ((y * A : Nat) : Int) := (Int.natCast_mul _ _).symm
 have hyA : (y + 1) * A ≤ C * A := Nat.mul_le_mul_right A hy
 rw [Nat.mul_comm C A, Nat.succ_mul] at hyA
 have h64 : A * C ≤ 64 := Nat.mul_le_mul hA hC
 simp only [Int.toNat_natCast]
 rw [e3]
 generalize y * A = q at hyA
 generalize A * C = n at hyA h64
 refine ⟨?_, ?_, by omega, by omega⟩
 ·rw [w64 (x := (q : Int)) (by omega) (by omega), w64 (by omega) (by omega)]; omega
 ·rw [w64 (x := (q : Int)) (by omega) (by omega), w64 (x := (q : Int) + (A : Int)) (by omega) (by omega), w64 (x := (q : Int) + (A : Int) - 1) (by omega) (by omega), w64 (by omega) (by omega)]; omega
theorem yc (n : Nat) (hn : n ≤ 64) : 0 ≤ (n : Int) ∧ ((n : Int)).toNat ≤ 35184372088832 ∧ List.replicate ((n : Int)).toNat (0 : Int) = List.replicate n 0 := ⟨by omega, by omega, by rw [Int.toNat_natCast]⟩
theorem zR (i : Nat) (h : i ≤ 64) : wrap64 (wrap64 (2 * (i : Int)) + 2) = 2 * (i : Int) + 2 ∧ wrap64 (wrap64 (2 * (i : Int)) + 1) = 2 * (i : Int) + 1 := by
 constructor
 ·rw [w64 (x := 2 * (i : Int)) (by omega) (by omega), w64 (by omega) (by omega)]
 ·rw [w64 (x := 2 * (i : Int)) (by omega) (by omega), w64 (by omega) (by omega)]
theorem zJ (A C : Nat) (hA : A ≤ 8) (hC : C ≤ 8) (l : List SL) (hl : l.length ≤ 64) (hin : ∀ v ∈ l, 0 ≤ v.f0 ∧ v.f0 < (A : Int) ∧ 0 ≤ v.f1 ∧ v.f1 < (C : Int)) : ∀ (d i : Nat), i + d = l.length → ∀ x : List Int × List Int × List Int, x.1.length = A * C → x.2.1.length = A * C → x.2.2.length = A * C → Ev (fun k => aY.l0 k (A : Int) l (i : Int) (A : Int) (C : Int) x.1 x.2.1 x.2.2) ((A : Int), (C : Int), (ma A (l.drop i) i x).1, (ma A (l.drop i) i x).2.1, (ma A (l.drop i) i x).2.2) := by
 intro d
 induction d with
 | zero =>
  intro i hi x _ _ _
  rw [List.drop_of_length_le (by omega), ma]
  exact Ev.step (f := fun _ => some ((A : Int), (C : Int), x.1, x.2.1, x.2.2)) (fun k => by rw [aY.l0, if_neg (by omega)]) (Ev.now _)
 | succ d ih =>
  intro i hi x h1 h2 h3
  have hil : i < l.length := by omega
  rw [List.drop_eq_getElem_cons hil, ma]
  have hg := uD hil
  obtain ⟨v0, v1, v2, v3⟩ := hin _ (List.getElem_mem hil)
  generalize l[i] = v at hg v0 v1 v2 v3
  have hs := sP A i v x
  have st := ih (i + 1) (by omega) (kF A i v x) (hs.1.trans h1) (hs.2.1.trans h2) (hs.2.2.trans h3)
  have g0 : (i : Int) < (l.length : Int) := by omega
  have g1 : 0 ≤ (i : Int) := by omega
  have hi64 : i ≤ 64 := by omega
  have hw := jH i (Nat.lt_of_le_of_lt hi64 (by decide))
  obtain ⟨u2, u1⟩ := zR i hi64
  obtain ⟨c1, c2, c3, c4⟩ := uR hA hC v0 v1 v2 v3
  have f1 : ((v.f1.toNat * A + v.f0.toNat : Nat) : Int) < (x.1.length : Int) := by rw [h1]; exact Int.ofNat_lt.2 c3
  have f2 : ((v.f1.toNat * A + A - 1 - v.f0.toNat : Nat) : Int) < (x.2.1.length : Int) := by rw [h2]; exact Int.ofNat_lt.2 c4
  have f3 : ((v.f1.toNat * A + v.f0.toNat : Nat) : Int) < (x.2.2.length : Int) := by rw [h3]; exact Int.ofNat_lt.2 c3
  have z1 : 0 ≤ ((v.f1.toNat * A + v.f0.toNat : Nat) : Int) := Int.natCast_nonneg _
  have z2 : 0 ≤ ((v.f1.toNat * A + A - 1 - v.f0.toNat : Nat) : Int) := Int.natCast_nonneg _
  have J : ∀ (U D : Int) (r : Int × Int × List Int × List Int × List Int), Ev (fun k => aY.l0 k (A : Int) l ((i + 1 : Nat) : Int) (A : Int) (C : Int) (x.1.set (v.f1.toNat * A + v.f0.toNat) U) (x.2.1.set (v.f1.toNat * A + A - 1 - v.f0.toNat) D) (if v.f3 = true then x.2.2.set (v.f1.toNat * A + v.f0.toNat) 1 else x.2.2)) r → Ev (fun k => aY.j1 k (A : Int) l (i : Int) U D (A : Int) (C : Int) x.1 x.2.1 x.2.2 v.f0 v.f1 v.f2 v.f3) r := by
   intro U D r hr
   refine Ev.step (fun k => ?_) hr
   rw [aY.j1, c1, c2, if_pos z1, if_pos f1, Int.toNat_natCast, Option.bind_some, if_pos z2, if_pos f2, Int.toNat_natCast, Option.bind_some, hw]
   by_cases h : v.f3 = true
   ·rw [if_pos h, if_pos h, if_pos f3]
   ·rw [if_neg h, if_neg h]
  by_cases hd : dn5 v = true
  ·have e := J (2 * (i : Int) + 2) (2 * (i : Int) + 1) ((A : Int), (C : Int), (ma A (l.drop (i + 1)) (i + 1) (kF A i v x)).1, (ma A (l.drop (i + 1)) (i + 1) (kF A i v x)).2.1, (ma A (l.drop (i + 1)) (i + 1) (kF A i v x)).2.2) (by
    have st' := st
    unfold kF at st' ⊢
    rw [if_pos hd, if_pos hd] at st' ⊢
    exact st')
   refine Ev.step (fun k => ?_) e
   rw [aY.l0, if_pos g0, if_pos g1, hg, fJ.f, Option.bind_some, if_pos (show (v.f2 != v.f3) = true from hd), u2, u1]
  ·have e := J (2 * (i : Int) + 1) (2 * (i : Int) + 2) ((A : Int), (C : Int), (ma A (l.drop (i + 1)) (i + 1) (kF A i v x)).1, (ma A (l.drop (i + 1)) (i + 1) (kF A i v x)).2.1, (ma A (l.drop (i + 1)) (i + 1) (kF A i v x)).2.2) (by
    have st' := st
    unfold kF at st' ⊢
    rw [if_neg hd, if_neg hd] at st' ⊢
    exact st')
   refine Ev.step (fun k => ?_) e
   rw [aY.l0, if_pos g0, if_pos g1, hg, fJ.f, Option.bind_some, if_neg (show ¬ (v.f2 != v.f3) = true from hd), u2, u1]
def z3_ (n : Nat) : List Int × List Int × List Int := (List.replicate n 0, List.replicate n 0, List.replicate n 0)
theorem vH {a b : Int} {s : ByteArray} (h : kK a b s) : ∃ (A C : Nat) (l : List SL), A ≤ 8 ∧ C ≤ 8 ∧ 0 < A ∧ 0 < C ∧ a = (A : Int) ∧ b = (C : Int) ∧ l.length = A * C ∧ (∀ v ∈ l, 0 ≤ v.f0 ∧ v.f0 < (A : Int) ∧ 0 ≤ v.f1 ∧ v.f1 < (C : Int)) ∧ Ev (fun k => aJ.f k a b s) l ∧ Ev (fun k => aY.f k a b s) (a, b, (ma A l 0 (z3_ (A * C))).1, (ma A l 0 (z3_ (A * C))).2.1, (ma A l 0 (z3_ (A * C))).2.2) := by
 obtain ⟨i, j, hi, hj, ha, hb, hl, hn, h1, h2⟩ := uZ h
 have hin := wW (i := i) (j := j) hl hn
 rw [Nat.pow_add] at h2
 have hA : 2 ^ i ≤ 8 := mE (n := 3) hi
 have hC : 2 ^ j ≤ 8 := mE (n := 3) hj
 have hA0 : 0 < 2 ^ i := Nat.pow_pos (by omega)
 have hC0 : 0 < 2 ^ j := Nat.pow_pos (by omega)
 refine ⟨2 ^ i, 2 ^ j, _, hA, hC, hA0, hC0, ha, hb, h2, hin, h1, ?_⟩
 generalize 2 ^ i = A at *
 generalize 2 ^ j = C at *
 generalize iK s.data.toList C A g0 = l at *
 have h64 : A * C ≤ 64 := Nat.mul_le_mul hA hC
 have hab : wrap64 (a * b) = ((A * C : Nat) : Int) := by
  have e : a * b = ((A * C : Nat) : Int) := by rw [ha, hb]; exact (Int.natCast_mul _ _).symm
  rw [e]
  generalize A * C = n at h64
  exact w64 (by omega) (by omega)
 have st := zJ A C hA hC l (by omega) hin l.length 0 (by omega) (z3_ (A * C)) (by simp [z3_]) (by simp [z3_]) (by simp [z3_])
 rw [List.drop_zero] at st
 obtain ⟨n0, n1, n2⟩ := yc (A * C) h64
 unfold aY.f
 rw [hab]
 refine bC n0 (bC n1 (Ev.bind h1 ?_))
 rw [n2]
 subst ha hb
 exact st
theorem vM (f : Bool) : jG.f f = some (if f = true then 1 else 0) := by cases f <;> rfl
def kP (A : Nat) (F B H : List Int) (v : SL) : List Int :=
 if rd H ((v.f1.toNat * A + v.f0.toNat : Nat) : Int) = (if v.f3 = true then 1 else 0) then
  (if dn5 v = true then [rd B ((v.f1.toNat * A + A - 1 - v.f0.toNat : Nat) : Int), rd F ((v.f1.toNat * A + v.f0.toNat : Nat) : Int)] else [rd F ((v.f1.toNat * A + v.f0.toNat : Nat) : Int), rd B ((v.f1.toNat * A + A - 1 - v.f0.toNat : Nat) : Int)])
 else
  (if dn5 v = true then [wrap64 (-rd B ((v.f1.toNat * A + A - 1 - v.f0.toNat : Nat) : Int)), wrap64 (-rd F ((v.f1.toNat * A + v.f0.toNat : Nat) : Int))] else [wrap64 (-rd F ((v.f1.toNat * A + v.f0.toNat : Nat) : Int)), wrap64 (-rd B ((v.f1.toNat * A + A - 1 - v.f0.toNat : Nat) : Int))])
theorem xH (A : Nat) (F B H : List Int) (v : SL) : (kP A F B H v).length = 2 := by
 unfold kP
 by_cases h : rd H ((v.f1.toNat * A + v.f0.toNat : Nat) : Int) = (if v.f3 = true then 1 else 0)
 ·rw [if_pos h]
  by_cases hd : dn5 v = true
  ·rw [if_pos hd]; rfl
  ·rw [if_neg hd]; rfl
 ·rw [if_neg h]
  by_cases hd : dn5 v = true
  ·rw [if_pos hd]; rfl
  ·rw [if_neg hd]; rfl
def gH (A : Nat) (F B H : List Int) (l : List SL) : List Int := l.flatMap (kP A F B H)
theorem kz (A : Nat) (F B H : List Int) : ∀ l : List SL, (gH A F B H l).length = 2 * l.length
 | [] => rfl
 | v :: t => by
  have := kz A F B H t
  unfold gH at this ⊢
  rw [List.flatMap_cons, List.length_append, xH, this, List.length_cons]
  omega
theorem rf (A : Nat) (F B H : List Int) (l : List SL) (i : Nat) (h : i < l.length) : gH A F B H (l.take (i + 1)) = gH A F B H (l.take i) ++ kP A F B H l[i] := by
 unfold gH
 rw [List.take_add_one, List.getElem?_eq_getElem h, List.flatMap_append]
 simp
theorem yH {H : List Int} (h : ∀ x ∈ H, 0 ≤ x ∧ x ≤ 1) {i : Nat} (hi : i < H.length) (f : Bool) : (f != (rd H (i : Int) == 1)) = true ↔ ¬ rd H (i : Int) = (if f = true then 1 else 0) := by
 have := h _ (mG hi)
 generalize rd H (i : Int) = x at this
 have hx : x = 0 ∨ x = 1 := by omega
 rcases hx with rfl | rfl <;> cases f <;> decide
theorem vC (A C : Nat) (hA : A ≤ 8) (hC : C ≤ 8) (F B H : List Int) (hF : F.length = A * C) (hB : B.length = A * C) (hH : H.length = A * C) (h01 : ∀ x ∈ H, 0 ≤ x ∧ x ≤ 1) (b : Int) (l : List SL) (hl : l.length ≤ 64) (hin : ∀ v ∈ l, 0 ≤ v.f0 ∧ v.f0 < (A : Int) ∧ 0 ≤ v.f1 ∧ v.f1 < (C : Int)) : ∀ (d i : Nat), i + d = l.length → Ev (fun k => bn.l0 k l (gH A F B H (l.take i)) (i : Int) (A : Int) b F B H) (gH A F B H l) := by
 intro d
 induction d with
 | zero =>
  intro i hi
  obtain rfl : i = l.length := by omega
  rw [List.take_length]
  exact Ev.step (f := fun _ => some (gH A F B H l)) (fun k => by rw [bn.l0, if_neg (by omega)]) (Ev.now _)
 | succ d ih =>
  intro i hi
  have hil : i < l.length := by omega
  have s1 := ih (i + 1) (by omega)
  rw [rf A F B H l i hil] at s1
  have hacc : (gH A F B H (l.take i)).length + 2 < 17592186044416 := by rw [kz, List.length_take]; omega
  have hg := uD hil
  obtain ⟨v0, v1, v2, v3⟩ := hin _ (List.getElem_mem hil)
  generalize l[i] = v at hg v0 v1 v2 v3 s1
  generalize gH A F B H (l.take i) = acc at s1 hacc
  have g0 : (i : Int) < (l.length : Int) := by omega
  have g1 : 0 ≤ (i : Int) := by omega
  have hi64 : i ≤ 64 := by omega
  obtain ⟨c1, c2, c3, c4⟩ := uR hA hC v0 v1 v2 v3
  have f1 : ((v.f1.toNat * A + v.f0.toNat : Nat) : Int) < (F.length : Int) := by rw [hF]; exact Int.ofNat_lt.2 c3
  have f2 : ((v.f1.toNat * A + A - 1 - v.f0.toNat : Nat) : Int) < (B.length : Int) := by rw [hB]; exact Int.ofNat_lt.2 c4
  have f3 : ((v.f1.toNat * A + v.f0.toNat : Nat) : Int) < (H.length : Int) := by rw [hH]; exact Int.ofNat_lt.2 c3
  have z1 : 0 ≤ ((v.f1.toNat * A + v.f0.toNat : Nat) : Int) := Int.natCast_nonneg _
  have z2 : 0 ≤ ((v.f1.toNat * A + A - 1 - v.f0.toNat : Nat) : Int) := Int.natCast_nonneg _
  have hw := jH i (Nat.lt_of_le_of_lt hi64 (by decide))
  have hd := yH h01 (by rw [hH]; exact c3) v.f3
  have ht := vM v.f3
  have p1 := @kP.eq_1 A F B H v
  generalize v.f1.toNat * A + v.f0.toNat = p at c1 f1 f3 z1 hd p1
  generalize v.f1.toNat * A + A - 1 - v.f0.toNat = q at c2 f2 z2 p1
  have J : ∀ (u w : Int), kP A F B H v = (if rd H (p : Int) = (if v.f3 = true then 1 else 0) then [u, w] else [wrap64 (-u), wrap64 (-w)]) → Ev (fun k => bn.j1 k l acc (i : Int) (p : Int) u w (A : Int) b F B H v.f0 v.f1 v.f2 v.f3) (gH A F B H l) := by
   intro u w hr
   by_cases hh : rd H (p : Int) = (if v.f3 = true then 1 else 0)
   ·rw [if_pos hh] at hr
    rw [hr] at s1
    have hn : ¬ (v.f3 != (rd H (p : Int) == 1)) = true := fun z => (hd.1 z) hh
    refine Ev.step (fun k => ?_) s1
    rw [bn.j1, if_pos z1, if_pos f3, if_neg hn, Option.bind_some, if_pos (show acc.length + [u, w].length < 17592186044416 from hacc), hw]
   ·rw [if_neg hh] at hr
    rw [hr] at s1
    have hn : (v.f3 != (rd H (p : Int) == 1)) = true := hd.2 hh
    refine Ev.step (fun k => ?_) s1
    rw [bn.j1, if_pos z1, if_pos f3, if_pos hn, Option.bind_some, if_pos (show acc.length + [wrap64 (-u), wrap64 (-w)].length < 17592186044416 from hacc), hw]
  by_cases hdn : dn5 v = true
  ·have j1 := J (rd B (q : Int)) (rd F (p : Int)) (by rw [p1, if_pos hdn, if_pos hdn])
   have hdn' : (v.f2 != v.f3) = true := hdn
   refine Ev.step (fun k => ?_) j1
   rw [bn.l0, if_pos g0, if_pos g1, hg, c1, c2, if_pos z1, if_pos f1, if_pos z2, if_pos f2, fJ.f, Option.bind_some, if_pos hdn']
  ·have j1 := J (rd F (p : Int)) (rd B (q : Int)) (by rw [p1, if_neg hdn, if_neg hdn])
   have hdn' : ¬ (v.f2 != v.f3) = true := hdn
   refine Ev.step (fun k => ?_) j1
   rw [bn.l0, if_pos g0, if_pos g1, hg, c1, c2, if_pos z1, if_pos f1, if_pos z2, if_pos f2, fJ.f, Option.bind_some, if_neg hdn']
theorem vB (A C : Nat) (hA : A ≤ 8) (hC : C ≤ 8) (F B H : List Int) (hF : F.length = A * C) (hB : B.length = A * C) (hH : H.length = A * C) (h01 : ∀ x ∈ H, 0 ≤ x ∧ x ≤ 1) (b : Int) (l : List SL) (hl : l.length ≤ 64) (hin : ∀ v ∈ l, 0 ≤ v.f0 ∧ v.f0 < (A : Int) ∧ 0 ≤ v.f1 ∧ v.f1 < (C : Int)) : ∀ (d i : Nat), i + d = l.length → Ev (fun k => aQ.l0 k (gH A F B H (l.take i)) l (l.length : Int) (i : Int) (A : Int) b F B H) (gH A F B H l) := by
 intro d
 induction d with
 | zero =>
  intro i hi
  obtain rfl : i = l.length := by omega
  rw [List.take_length]
  exact Ev.step (f := fun _ => some (gH A F B H l)) (fun k => by rw [aQ.l0, if_neg (by omega)]) (Ev.now _)
 | succ d ih =>
  intro i hi
  have hil : i < l.length := by omega
  have s2 := ih (i + 1) (by omega)
  rw [rf A F B H l i hil] at s2
  have hacc : (gH A F B H (l.take i)).length + 2 < 17592186044416 := by rw [kz, List.length_take]; omega
  have hg := uD hil
  obtain ⟨v0, v1, v2, v3⟩ := hin _ (List.getElem_mem hil)
  generalize l[i] = v at hg v0 v1 v2 v3 s2
  generalize gH A F B H (l.take i) = acc at s2 hacc
  have g0 : (i : Int) < (l.length : Int) := by omega
  have g1 : 0 ≤ (i : Int) := by omega
  have hi64 : i ≤ 64 := by omega
  obtain ⟨c1, c2, c3, c4⟩ := uR hA hC v0 v1 v2 v3
  have f1 : ((v.f1.toNat * A + v.f0.toNat : Nat) : Int) < (F.length : Int) := by rw [hF]; exact Int.ofNat_lt.2 c3
  have f2 : ((v.f1.toNat * A + A - 1 - v.f0.toNat : Nat) : Int) < (B.length : Int) := by rw [hB]; exact Int.ofNat_lt.2 c4
  have f3 : ((v.f1.toNat * A + v.f0.toNat : Nat) : Int) < (H.length : Int) := by rw [hH]; exact Int.ofNat_lt.2 c3
  have z1 : 0 ≤ ((v.f1.toNat * A + v.f0.toNat : Nat) : Int) := Int.natCast_nonneg _
  have z2 : 0 ≤ ((v.f1.toNat * A + A - 1 - v.f0.toNat : Nat) : Int) := Int.natCast_nonneg _
  have hw := jH i (Nat.lt_of_le_of_lt hi64 (by decide))
  have hd := yH h01 (by rw [hH]; exact c3) v.f3
  have ht := vM v.f3
  have p1 := @kP.eq_1 A F B H v
  generalize v.f1.toNat * A + v.f0.toNat = p at c1 f1 f3 z1 hd p1
  generalize v.f1.toNat * A + A - 1 - v.f0.toNat = q at c2 f2 z2 p1
  have J : ∀ (u w : Int), kP A F B H v = (if rd H (p : Int) = (if v.f3 = true then 1 else 0) then [u, w] else [wrap64 (-u), wrap64 (-w)]) → Ev (fun k => aQ.j1 k acc (p : Int) u w l (l.length : Int) (i : Int) (A : Int) b F B H v.f0 v.f1 v.f2 v.f3) (gH A F B H l) := by
   intro u w hr
   by_cases hh : rd H (p : Int) = (if v.f3 = true then 1 else 0)
   ·rw [if_pos hh] at hr
    rw [hr] at s2
    have e2 : Ev (fun k => aQ.j2 k acc u w l (l.length : Int) (i : Int) (A : Int) b F B H) (gH A F B H l) := Ev.step (fun k => by rw [aQ.j2, Option.bind_some, if_pos (show acc.length + [u, w].length < 17592186044416 from hacc), hw]) s2
    exact Ev.step (fun k => by rw [aQ.j1, if_pos z1, if_pos f3, ht, Option.bind_some, if_pos hh]) e2
   ·rw [if_neg hh] at hr
    rw [hr] at s2
    have e2 : Ev (fun k => aQ.j2 k acc (wrap64 (-u)) (wrap64 (-w)) l (l.length : Int) (i : Int) (A : Int) b F B H) (gH A F B H l) := Ev.step (fun k => by rw [aQ.j2, Option.bind_some, if_pos (show acc.length + [wrap64 (-u), wrap64 (-w)].length < 17592186044416 from hacc), hw]) s2
    exact Ev.step (fun k => by rw [aQ.j1, if_pos z1, if_pos f3, ht, Option.bind_some, if_neg hh]) e2
  by_cases hdn : dn5 v = true
  ·have j2 := J (rd B (q : Int)) (rd F (p : Int)) (by rw [p1, if_pos hdn, if_pos hdn])
   have hdn' : (v.f2 != v.f3) = true := hdn
   refine Ev.step (fun k => ?_) j2
   ·rw [aQ.l0, if_pos g0, if_pos g1, if_pos g0, hg, gG.f, c1, Option.bind_some, if_pos z1, if_pos f1, gP.f, c2, Option.bind_some, if_pos z2, if_pos f2, iA.f, Option.bind_some, if_pos hdn']
  ·have j2 := J (rd F (p : Int)) (rd B (q : Int)) (by rw [p1, if_neg hdn, if_neg hdn])
   have hdn' : ¬ (v.f2 != v.f3) = true := hdn
   refine Ev.step (fun k => ?_) j2
   ·rw [aQ.l0, if_pos g0, if_pos g1, if_pos g0, hg, gG.f, c1, Option.bind_some, if_pos z1, if_pos f1, gP.f, c2, Option.bind_some, if_pos z2, if_pos f2, iA.f, Option.bind_some, if_neg hdn']
theorem wE (A C : Nat) (hA : A ≤ 8) (hC : C ≤ 8) (F B H : List Int) (hF : F.length = A * C) (hB : B.length = A * C) (hH : H.length = A * C) (h01 : ∀ x ∈ H, 0 ≤ x ∧ x ≤ 1) (b : Int) (l : List SL) (hl : l.length ≤ 64) (hin : ∀ v ∈ l, 0 ≤ v.f0 ∧ v.f0 < (A : Int) ∧ 0 ≤ v.f1 ∧ v.f1 < (C : Int)) : ∀ (d i : Nat), i + d = l.length → Ev (fun k => bn.l0 k l (gH A F B H (l.take i)) (i : Int) (A : Int) b F B H) (gH A F B H l) ∧ Ev (fun k => aQ.l0 k (gH A F B H (l.take i)) l (l.length : Int) (i : Int) (A : Int) b F B H) (gH A F B H l) := fun d i h => ⟨vC A C hA hC F B H hF hB hH h01 b l hl hin d i h, vB A C hA hC F B H hF hB hH h01 b l hl hin d i h⟩
theorem sQ {a b : Int} {F B H : List Int} (h : jS a b F B H) : ∃ i j : Nat, i ≤ 3 ∧ j ≤ 3 ∧ a = ((2 ^ i : Nat) : Int) ∧ b = ((2 ^ j : Nat) : Int) ∧ F.length = 2 ^ i * 2 ^ j ∧ B.length = 2 ^ i * 2 ^ j ∧ H.length = 2 ^ i * 2 ^ j ∧ (∀ x ∈ H, 0 ≤ x ∧ x ≤ 1) := by
 obtain ⟨i, j, i1, j1, ha, hb, hF, hB, hH, h4, _⟩ := h
 rw [Nat.pow_add] at hF hB hH
 exact ⟨i, j, i1, j1, ha, hb, hF, hB, hH, h4⟩
theorem oL {a b : Int} {F B H : List Int} {s : ByteArray} (hf : jS a b F B H) (hs : kK a b s) : ∃ (A C : Nat) (l : List SL), 0 < A ∧ A ≤ 8 ∧ 0 < C ∧ C ≤ 8 ∧ a = (A : Int) ∧ b = (C : Int) ∧ F.length = A * C ∧ B.length = A * C ∧ H.length = A * C ∧ l.length = A * C ∧ (∀ v ∈ l, 0 ≤ v.f0 ∧ v.f0 < (A : Int) ∧ 0 ≤ v.f1 ∧ v.f1 < (C : Int)) ∧ (∀ x y : Int, 0 ≤ x → x < (A : Int) → 0 ≤ y → y < (C : Int) → l.countP (atL x y) = 1) ∧ Ev (fun k => aJ.f k a b s) l ∧ Ev (fun k => aA.f k a b s) l ∧ Ev (fun k => bn.f k a b F B H s) (gH A F B H l) ∧ Ev (fun k => aQ.f k a b F B H s) (gH A F B H l) := by
 obtain ⟨i, j, i1, j1, ha, hb, hF, hB, hH, h4⟩ := sQ hf
 obtain ⟨l, l1, l2, l3, l4, _, l6, l7, _⟩ := xz hs
 have p : ∀ q : Nat, q ≤ 3 → 0 < 2 ^ q ∧ 2 ^ q ≤ 8 := fun q hq => ⟨Nat.pow_pos (by omega), Nat.le_trans (Nat.pow_le_pow_right (by omega) hq) (by decide)⟩
 obtain ⟨A0, A8⟩ := p i i1
 obtain ⟨C0, C8⟩ := p j j1
 generalize 2 ^ i = A at *
 generalize 2 ^ j = C at *
 have hlen : l.length = A * C := by
  rw [ha, hb] at l4
  have e : (A : Int) * (C : Int) = ((A * C : Nat) : Int) := (Int.natCast_mul _ _).symm
  rw [e] at l4
  omega
 rw [ha, hb] at l6 l7
 obtain ⟨r1, r2⟩ := wE A C A8 C8 F B H hF hB hH h4 b l l3 l7 l.length 0 (by omega)
 refine ⟨A, C, l, A0, A8, C0, C8, ha, hb, hF, hB, hH, hlen, l7, l6, l1, l2, ?_, ?_⟩
 ·unfold bn.f
  refine Ev.bind l1 ?_
  rw [ha]
  exact r1
 ·unfold aQ.f
  refine Ev.bind l2 ?_
  rw [ha]
  exact r2
theorem yO (l : List Int) (h0 : 0 < l.length) (hl : l.length ≤ 1000) : ∃ m, Ev (fun k => aV.f k l) m ∧ m ∈ l ∧ ∀ x ∈ l, m ≤ x := by
 have loop : ∀ (d i : Nat), i + d = l.length → ∀ m : Int, m ∈ l → (∀ j (hj : j < l.length), j < i → m ≤ l[j]) → ∃ r, Ev (fun k => aV.l0 k l m (i : Int)) r ∧ r ∈ l ∧ ∀ j (hj : j < l.length), r ≤ l[j] := by
  intro d
  induction d with
  | zero =>
   intro i hi m hm hj
   exact ⟨m, Ev.step (f := fun _ => some m) (fun k => by rw [aV.l0, if_neg (by omega)]) (Ev.now _), hm, fun j hj' => hj j hj' (by omega)⟩
  | succ d ih =>
   intro i hi m hm hj
   have hil : i < l.length := by omega
   obtain ⟨p1, p2, p3⟩ := wY m l[i]
   obtain ⟨r, r1, r2, r3⟩ := ih (i + 1) (by omega) (mn m l[i]) (by
    rcases p3 with e | e
    ·rw [e]; exact hm
    ·rw [e]; exact List.getElem_mem hil) (fun j hj' hji => by
    by_cases e : j = i
    ·subst e; omega
    ·have := hj j hj' (by omega); omega)
   refine ⟨r, Ev.step (fun k => ?_) r1, r2, r3⟩
   rw [aV.l0, if_pos (by omega), if_pos (by omega), iP hil, jH i (by omega)]
 have e0 : rd l (0 : Int) = l[0] := iP (i := 0) h0
 obtain ⟨r, r1, r2, r3⟩ := loop (l.length - 1) 1 (by omega) l[0] (List.getElem_mem h0) (fun j hj hji => by
  obtain rfl : j = 0 := by omega
  exact Int.le_refl _)
 refine ⟨r, ?_, r2, fun x hx => ?_⟩
 ·unfold aV.f
  refine dW (by omega) (bC (by omega) ?_)
  rw [e0]
  exact r1
 ·obtain ⟨j, hj, e⟩ := List.getElem_of_mem hx
  have := r3 j hj
  omega
theorem vG (x : List Int) (m : Int) (hx : x.length ≤ 1000) : ∀ (d i : Nat), i + d = x.length → ∃ v : Bool, Ev (fun k => bX.l0 k x m (i : Int)) v ∧ Ev (fun k => bL.l0 k m x (x.length : Int) (i : Int)) v ∧ (v = true ↔ ∀ j (hj : j < x.length), i ≤ j → x[j] = wrap64 (m + (j : Int))) := by
 intro d
 induction d with
 | zero =>
  intro i hi
  exact ⟨true, Ev.step (f := fun _ => some true) (fun k => by rw [bX.l0, if_neg (by omega)]) (Ev.now _), Ev.step (f := fun _ => some true) (fun k => by rw [bL.l0, if_neg (by omega)]) (Ev.now _), fun _ j hj hij => by omega, fun _ => rfl⟩
 | succ d ih =>
  intro i hi
  have hil : i < x.length := by omega
  obtain ⟨v, v1, v2, v3⟩ := ih (i + 1) (by omega)
  have g0 : (i : Int) < (x.length : Int) := by omega
  have g1 : 0 ≤ (i : Int) := by omega
  have hw := jH i (by omega)
  have hg := iP hil
  by_cases c : x[i] = wrap64 (m + (i : Int))
  ·refine ⟨v, Ev.step (fun k => ?_) v1, Ev.step (fun k => ?_) v2, ?_⟩
   ·rw [bX.l0, if_pos g0, if_pos g1, hg, if_pos c, hw]
   ·rw [bL.l0, if_pos g0, if_pos g1, if_pos g0, hg, if_pos c, hw]
   ·rw [v3]
    constructor
    ·intro g j hj hij
     by_cases e : j = i
     ·subst e; exact c
     ·exact g j hj (Nat.lt_of_le_of_ne hij (fun z => e z.symm))
    ·intro g j hj hij
     exact g j hj (Nat.le_of_succ_le hij)
  ·refine ⟨false, Ev.step (f := fun _ => some false) (fun k => ?_) (Ev.now _), Ev.step (f := fun _ => some false) (fun k => ?_) (Ev.now _), (fun z => by cases z), fun g => (c (g i hil (Nat.le_refl _))).elim⟩
   ·rw [bX.l0, if_pos g0, if_pos g1, hg, if_neg c]
   ·rw [bL.l0, if_pos g0, if_pos g1, if_pos g0, hg, if_neg c]
theorem qa {a b : Int} {F B H : List Int} {s : ByteArray} (hf : jS a b F B H) (hs : kK a b s) : ∃ v : Bool, Ev (fun k => bX.f k a b F B H s) v ∧ Ev (fun k => bL.f k a b F B H s) v := by
 obtain ⟨A, C, l, A0, A8, C0, C8, ha, hb, hF, hB, hH, hl, _, _, _, _, r1, r2⟩ := oL hf hs
 have h64 : A * C ≤ 64 := Nat.mul_le_mul A8 C8
 have h0 : 0 < A * C := Nat.mul_pos A0 C0
 obtain ⟨m, m1, m2, m3⟩ := uX a b F B H (by omega) (by omega) (by omega)
 obtain ⟨p, p1, p2, p3⟩ := yO F (by omega) (by omega)
 obtain ⟨q, q1, q2, q3⟩ := yO B (by omega) (by omega)
 have e : mn p q = m := by
  obtain ⟨n1, n2, n3⟩ := wY p q
  have g1 := m3 p (List.mem_append.2 (.inl p2))
  have g2 := m3 q (List.mem_append.2 (.inr q2))
  rcases List.mem_append.1 m2 with h | h
  ·have := p3 m h; omega
  ·have := q3 m h; omega
 have hx : (gH A F B H l).length ≤ 1000 := by rw [kz]; omega
 obtain ⟨v, v1, v2, _⟩ := vG (gH A F B H l) m hx (gH A F B H l).length 0 (by omega)
 refine ⟨v, ?_, ?_⟩
 ·unfold bX.f
  exact Ev.bind r1 (Ev.bind m1 v1)
 ·unfold bL.f
  refine Ev.bind p1 (Ev.bind q1 (Ev.bind r2 ?_))
  rw [e]
  exact v2
theorem nI (a b : Int) (F B H : List Int) (s : ByteArray) (hl : H.length ≤ 1048576) (hs : s.size ≤ 1048576) : ∃ c : Int, Ev (fun k => eO.f k a b F B H s) c ∧ Ev (fun k => dU.f k a b F B H s) c ∧ (c = 0 → jS a b F B H ∧ kK a b s) := by
 obtain ⟨v, v1, v2, v3⟩ := nX a b F B H hl
 obtain ⟨u, u1, u2, u3⟩ := uq a b s hs
 unfold eO.f dU.f
 cases v with
 | false => exact ⟨1, Ev.bind v1 (dW (by simp) (Ev.now _)), Ev.bind v2 (dW (by simp) (Ev.now _)), fun z => by cases z⟩
 | true =>
  cases u with
  | false => exact ⟨2, Ev.bind v1 (bC rfl (Ev.bind u1 (dW (by simp) (Ev.now _)))), Ev.bind v2 (bC rfl (Ev.bind u2 (dW (by simp) (Ev.now _)))), fun z => by cases z⟩
  | true => exact ⟨0, Ev.bind v1 (bC rfl (Ev.bind u1 (bC rfl (Ev.now _)))), Ev.bind v2 (bC rfl (Ev.bind u2 (bC rfl (Ev.now _)))), fun _ => ⟨v3.1 rfl, u3 rfl⟩⟩
theorem ql (a b : Int) (F B H : List Int) (s : ByteArray) (hl : H.length ≤ 1048576) (hs : s.size ≤ 1048576) : ∃ r : Bool × Int, Ev (fun k => eF.f k a b F B H s) r ∧ Ev (fun k => dK.f k a b F B H s) r := by
 obtain ⟨c, c1, c2, c3⟩ := nI a b F B H s hl hs
 unfold eF.f dK.f
 by_cases hc : c = 0
 ·obtain ⟨h1, h2⟩ := c3 hc
  obtain ⟨v, v1, v2⟩ := qa h1 h2
  exact ⟨(v, 0), Ev.bind c1 (bC hc (Ev.bind v1 (Ev.now _))), Ev.bind c2 (bC hc (Ev.bind v2 (Ev.now _)))⟩
 ·exact ⟨(false, c), Ev.bind c1 (dW hc (Ev.now _)), Ev.bind c2 (dW hc (Ev.now _))⟩
theorem mY {A y x : Nat} (h : x < A) : (y * A + x) / A = y ∧ (y * A + x) % A = x := by
 constructor
 ·rw [Nat.mul_comm, Nat.mul_add_div (by omega), Nat.div_eq_of_lt h, Nat.add_zero]
 ·rw [Nat.mul_comm, Nat.mul_add_mod, Nat.mod_eq_of_lt h]
abbrev cF (A : Nat) (v : SL) : Nat := v.f1.toNat * A + v.f0.toNat
abbrev cB (A : Nat) (v : SL) : Nat := v.f1.toNat * A + A - 1 - v.f0.toNat
def inS (A C : Nat) (v : SL) : Prop := 0 ≤ v.f0 ∧ v.f0 < (A : Int) ∧ 0 ≤ v.f1 ∧ v.f1 < (C : Int)
theorem yF {A C : Nat} {v w : SL} (hA : 0 < A) (hv : inS A C v) (hw : inS A C w) : (cF A v = cF A w → v.f0 = w.f0 ∧ v.f1 = w.f1) ∧ (cB A v = cB A w → v.f0 = w.f0 ∧ v.f1 = w.f1) := by
 obtain ⟨a0, a1, a2, a3⟩ := hv
 obtain ⟨b0, b1, b2, b3⟩ := hw
 have h1 := mY (A := A) (y := v.f1.toNat) (x := v.f0.toNat) (by omega)
 have h2 := mY (A := A) (y := w.f1.toNat) (x := w.f0.toNat) (by omega)
 have h3 := mY (A := A) (y := v.f1.toNat) (x := A - 1 - v.f0.toNat) (by omega)
 have h4 := mY (A := A) (y := w.f1.toNat) (x := A - 1 - w.f0.toNat) (by omega)
 constructor
 ·intro e
  have e' : v.f1.toNat * A + v.f0.toNat = w.f1.toNat * A + w.f0.toNat := e
  rw [e'] at h1
  have q1 := h1.1.symm.trans h2.1
  have q2 := h1.2.symm.trans h2.2
  exact ⟨by omega, by omega⟩
 ·intro e
  have e' : v.f1.toNat * A + (A - 1 - v.f0.toNat) = w.f1.toNat * A + (A - 1 - w.f0.toNat) := by
   have e2 : v.f1.toNat * A + A - 1 - v.f0.toNat = w.f1.toNat * A + A - 1 - w.f0.toNat := e
   omega
  rw [e'] at h3
  have q1 := h3.1.symm.trans h4.1
  have q2 := h3.2.symm.trans h4.2
  exact ⟨by omega, by omega⟩
def Apart (l : List SL) : Prop := l.Pairwise (fun v w => ¬ (v.f0 = w.f0 ∧ v.f1 = w.f1))
theorem qO {A C : Nat} {l : List SL} (hin : ∀ v ∈ l, inS A C v) (h : ∀ x y : Int, 0 ≤ x → x < (A : Int) → 0 ≤ y → y < (C : Int) → l.countP (atL x y) = 1) : Apart l := by
 refine List.pairwise_iff_getElem.2 (fun i j hi hj hij e => ?_)
 obtain ⟨a0, a1, a2, a3⟩ := hin _ (List.getElem_mem hi)
 have hc := h _ _ a0 a1 a2 a3
 have p1 : atL l[i].f0 l[i].f1 l[i] = true := by unfold atL; rw [if_pos rfl]; simp
 have p2 : atL l[i].f0 l[i].f1 l[j] = true := by unfold atL; rw [if_pos e.1.symm, e.2]; simp
 have hs : ∀ p : SL → Bool, l.countP p = (l.take j).countP p + (l.drop j).countP p := fun p => by
  conv => lhs; rw [← List.take_append_drop j l, List.countP_append]
 have hs := hs (atL l[i].f0 l[i].f1)
 have c1 : 0 < (l.take j).countP (atL l[i].f0 l[i].f1) := by
  refine List.countP_pos_iff.2 ⟨l[i], ?_, p1⟩
  have : (l.take j)[i]'(by rw [List.length_take]; omega) = l[i] := List.getElem_take
  rw [← this]
  exact List.getElem_mem _
 have c2 : 0 < (l.drop j).countP (atL l[i].f0 l[i].f1) := by
  refine List.countP_pos_iff.2 ⟨l[j], ?_, p2⟩
  rw [List.drop_eq_getElem_cons hj]
  exact List.mem_cons_self
 omega
def pg (x : Int) : Int := if x < 0 then -x else x
theorem pG {l : List Int} (h : l.Nodup) {i j : Nat} (hi : i < l.length) (hj : j < l.length) (e : l[i] = l[j]) : i = j := by
 have p := List.pairwise_iff_getElem.1 (List.nodup_iff_pairwise_ne.1 h)
 rcases Nat.lt_trichotomy i j with q | q | q
 ·exact absurd e (p i j hi hj q)
 ·exact q
 ·exact absurd e.symm (p j i hj hi q)
theorem yV {A : Nat} {F B H : List Int} {v : SL} (hf : 1 ≤ rd F (cF A v : Int) ∧ rd F (cF A v : Int) ≤ 4000000000) (hb : 1 ≤ rd B (cB A v : Int) ∧ rd B (cB A v : Int) ≤ 4000000000) : ((kP A F B H v).map pg = [rd F (cF A v : Int), rd B (cB A v : Int)] ∨ (kP A F B H v).map pg = [rd B (cB A v : Int), rd F (cF A v : Int)]) ∧ ∀ y ∈ kP A F B H v, -4000000000 ≤ y ∧ y ≤ 4000000000 := by
 unfold kP
 change ((_ ∨ _) ∧ _)
 generalize hu : rd F ((v.f1.toNat * A + v.f0.toNat : Nat) : Int) = u
 generalize hw : rd B ((v.f1.toNat * A + A - 1 - v.f0.toNat : Nat) : Int) = w
 have hf' : 1 ≤ u ∧ u ≤ 4000000000 := by rw [← hu]; exact hf
 have hb' : 1 ≤ w ∧ w ≤ 4000000000 := by rw [← hw]; exact hb
 have g1 : rd F (cF A v : Int) = u := hu
 have g2 : rd B (cB A v : Int) = w := hw
 have e1 : wrap64 (-u) = -u := w64 (by omega) (by omega)
 have e2 : wrap64 (-w) = -w := w64 (by omega) (by omega)
 have p1 : pg u = u := by unfold pg; rw [if_neg (by omega)]
 have p2 : pg w = w := by unfold pg; rw [if_neg (by omega)]
 have p3 : pg (-u) = u := by unfold pg; rw [if_pos (by omega)]; omega
 have p4 : pg (-w) = w := by unfold pg; rw [if_pos (by omega)]; omega
 rw [e1, e2]
 by_cases h : rd H ((v.f1.toNat * A + v.f0.toNat : Nat) : Int) = (if v.f3 = true then 1 else 0)
 ·rw [if_pos h]
  by_cases hd : dn5 v = true
  ·rw [if_pos hd]
   refine ⟨.inr (by simp [p1, p2]), fun y hy => ?_⟩
   simp only [List.mem_cons, List.not_mem_nil, or_false] at hy
   omega
  ·rw [if_neg hd]
   refine ⟨.inl (by simp [p1, p2]), fun y hy => ?_⟩
   simp only [List.mem_cons, List.not_mem_nil, or_false] at hy
   omega
 ·rw [if_neg h]
  by_cases hd : dn5 v = true
  ·rw [if_pos hd]
   refine ⟨.inr (by simp [p3, p4]), fun y hy => ?_⟩
   simp only [List.mem_cons, List.not_mem_nil, or_false] at hy
   omega
  ·rw [if_neg hd]
   refine ⟨.inl (by simp [p3, p4]), fun y hy => ?_⟩
   simp only [List.mem_cons, List.not_mem_nil, or_false] at hy
   omega
theorem tC {A C : Nat} (hA : 0 < A) (hA8 : A ≤ 8) (hC8 : C ≤ 8) {F B H : List Int} (hF : F.length = A * C) (hB : B.length = A * C) (hnd : (F ++ B).Nodup) (hp : ∀ x ∈ F ++ B, 1 ≤ x ∧ x ≤ 4000000000) : ∀ l : List SL, (∀ v ∈ l, inS A C v) → Apart l → ((gH A F B H l).map pg).Nodup ∧ (∀ y ∈ gH A F B H l, (∃ v ∈ l, pg y = rd F (cF A v : Int) ∨ pg y = rd B (cB A v : Int)) ∧ -4000000000 ≤ y ∧ y ≤ 4000000000)
 | [], _, _ => ⟨by simp [gH], fun y hy => by simp [gH] at hy⟩
 | v :: t, hin, hap => by
  obtain ⟨ap1, ap2⟩ := List.pairwise_cons.1 hap
  have hv := hin v List.mem_cons_self
  obtain ⟨ih1, ih2⟩ := tC hA hA8 hC8 hF hB hnd hp t (fun w hw => hin w (List.mem_cons_of_mem _ hw)) ap2
  have lies : ∀ w, inS A C w → cF A w < F.length ∧ cB A w < B.length := fun w hw => by
   obtain ⟨w0, w1, w2, w3⟩ := hw
   obtain ⟨_, _, c3, c4⟩ := uR hA8 hC8 w0 w1 w2 w3
   exact ⟨by rw [hF]; exact c3, by rw [hB]; exact c4⟩
  obtain ⟨n1, n2, n3⟩ := List.nodup_append.1 hnd
  have injF : ∀ c d, c < F.length → d < F.length → rd F (c : Int) = rd F (d : Int) → c = d := fun c d hc hd e => by
   rw [iP hc, iP hd] at e
   exact pG n1 hc hd e
  have injB : ∀ c d, c < B.length → d < B.length → rd B (c : Int) = rd B (d : Int) → c = d := fun c d hc hd e => by
   rw [iP hc, iP hd] at e
   exact pG n2 hc hd e
  have FB : ∀ c d, c < F.length → d < B.length → rd F (c : Int) ≠ rd B (d : Int) := fun c d hc hd => n3 _ (mG hc) _ (mG hd)
  obtain ⟨l1, l2⟩ := lies v hv
  have pf := hp _ (List.mem_append.2 (.inl (mG l1)))
  have pb := hp _ (List.mem_append.2 (.inr (mG l2)))
  obtain ⟨o1, o2⟩ := yV (H := H) pf pb
  have hs : gH A F B H (v :: t) = kP A F B H v ++ gH A F B H t := by unfold gH; rw [List.flatMap_cons]
  have hne := FB _ _ l1 l2
  have onod : ((kP A F B H v).map pg).Nodup := by
   rcases o1 with e | e
   ·rw [e]; exact List.nodup_cons.2 ⟨by simp only [List.mem_cons, List.not_mem_nil, or_false]; exact hne, by simp⟩
   ·rw [e]; exact List.nodup_cons.2 ⟨by simp only [List.mem_cons, List.not_mem_nil, or_false]; exact Ne.symm hne, by simp⟩
  have omem : ∀ y ∈ (kP A F B H v).map pg, y = rd F (cF A v : Int) ∨ y = rd B (cB A v : Int) := fun y hy => by
   rcases o1 with e | e
   ·rw [e] at hy; simp only [List.mem_cons, List.not_mem_nil, or_false] at hy; exact hy
   ·rw [e] at hy; simp only [List.mem_cons, List.not_mem_nil, or_false] at hy; exact hy.symm
  constructor
  ·rw [hs, List.map_append]
   refine List.nodup_append.2 ⟨onod, ih1, fun x hx y hy e => ?_⟩
   obtain ⟨y', hy', rfl⟩ := List.mem_map.1 hy
   obtain ⟨⟨w, hw, hc⟩, _⟩ := ih2 y' hy'
   have hw' := hin w (List.mem_cons_of_mem _ hw)
   obtain ⟨k1, k2⟩ := lies w hw'
   have ci := yF hA hv hw'
   rcases omem x hx with e1 | e1 <;> rcases hc with e2 | e2
   ·exact ap1 w hw (ci.1 (injF _ _ l1 k1 (by rw [← e1, e, e2])))
   ·exact FB _ _ l1 k2 (by rw [← e1, e, e2])
   ·exact FB _ _ k1 l2 (by rw [← e1, e, e2])
   ·exact ap1 w hw (ci.2 (injB _ _ l2 k2 (by rw [← e1, e, e2])))
  ·intro y hy
   rw [hs] at hy
   rcases List.mem_append.1 hy with h | h
   ·refine ⟨⟨v, List.mem_cons_self, omem _ (List.mem_map.2 ⟨y, h, rfl⟩)⟩, o2 y h⟩
   ·obtain ⟨⟨w, hw, hc⟩, hr⟩ := ih2 y h
    exact ⟨⟨w, List.mem_cons_of_mem _ hw, hc⟩, hr⟩
theorem rZ (a b : Int) (F B H : List Int) (s : ByteArray) (hl : H.length ≤ 1048576) (hs : s.size ≤ 1048576) : ∃ r : List Int × Int, Ev (fun k => fE.f k a b F B H s) r ∧ Ev (fun k => fD.f k a b F B H s) r ∧ r.1.length ≤ 1000 ∧ (r.2 = 0 → r.1.length = (F ++ B).length ∧ F.length ≤ 64 ∧ B.length ≤ 64 ∧ (r.1.map pg).Nodup ∧ ∀ y ∈ r.1, pg y ∈ F ++ B ∧ -4000000000 ≤ y ∧ y ≤ 4000000000) := by
 obtain ⟨c, c1, c2, c3⟩ := nI a b F B H s hl hs
 unfold fE.f fD.f
 by_cases hc : c = 0
 ·obtain ⟨h1, h2⟩ := c3 hc
  obtain ⟨A, C, l, A0, A8, C0, C8, _, _, hF, hB, _, hlen, hin, hcnt, _, _, r1, r2⟩ := oL h1 h2
  have h64 : A * C ≤ 64 := Nat.mul_le_mul A8 C8
  refine ⟨(gH A F B H l, 0), Ev.bind c1 (bC hc (Ev.bind r1 (Ev.now _))), Ev.bind c2 (bC hc (Ev.bind r2 (Ev.now _))), by show (gH A F B H l).length ≤ 1000; rw [kz]; omega, fun _ => ?_⟩
  have hap := qO hin hcnt
  obtain ⟨i, j, _, _, _, _, _, _, _, _, m, m1, m2, _, hrun⟩ := h1
  have hp : ∀ x ∈ F ++ B, 1 ≤ x ∧ x ≤ 4000000000 := fun x hx => by
   have := hrun.1 x hx
   rw [List.length_append] at this
   exact ⟨by omega, by omega⟩
  obtain ⟨o1, o2⟩ := tC (H := H) A0 A8 C8 hF hB hrun.2 hp l hin hap
  refine ⟨?_, by omega, by omega, o1, fun y hy => ?_⟩
  ·show (gH A F B H l).length = _
   rw [kz, List.length_append]; omega
  ·obtain ⟨⟨v, hv, hc'⟩, h⟩ := o2 y hy
   refine ⟨?_, h⟩
   obtain ⟨v0, v1, v2, v3⟩ := hin v hv
   obtain ⟨_, _, q3, q4⟩ := uR A8 C8 v0 v1 v2 v3
   rcases hc' with e | e
   ·rw [e]; exact List.mem_append.2 (.inl (mG (by rw [hF]; exact q3)))
   ·rw [e]; exact List.mem_append.2 (.inr (mG (by rw [hB]; exact q4)))
 ·exact ⟨([], c), Ev.bind c1 (dW hc (Ev.now _)), Ev.bind c2 (dW hc (Ev.now _)), by simp, fun z => (hc z).elim⟩
theorem CG {y : Int} (h0 : -4000000000 ≤ y) (h1 : y ≤ 4000000000) : mx y (wrap64 (-y)) = pg y ∧ wrap64 (-y) = -y ∧ pg (-y) = pg y := by
 have e : wrap64 (-y) = -y := w64 (by omega) (by omega)
 rw [e]
 unfold mx pg
 refine ⟨?_, rfl, ?_⟩
 ·split <;> split <;> omega
 ·split <;> split <;> omega
theorem vD {r : List Int} (hn : (r.map pg).Nodup) {i : Nat} (hi : i < r.length) (x : Int) (hx : pg x = pg r[i]) : x ∉ r.take i := by
 intro hm
 obtain ⟨j, hj, e⟩ := List.getElem_of_mem hm
 rw [List.length_take] at hj
 rw [List.getElem_take] at e
 have hj' : j < r.length := by omega
 have h1 : (r.map pg)[j]'(by simpa using hj') = (r.map pg)[i]'(by simpa using hi) := by
  rw [List.getElem_map, List.getElem_map, e, hx]
 have := pG hn (by simpa using hj') (by simpa using hi) h1
 omega
theorem mI (n a c : Nat) (d : ByteArray) (ch : UInt8) (h : ∀ a c d, (eX n a c d).length ≤ 4 ^ n) : (fQ (eX n) a c d ch).length ≤ 4 ^ n := by
 have hp : 0 < 4 ^ n := Nat.pow_pos (by omega)
 unfold fQ
 split
 ·split
  ·exact h _ _ _
  ·simp
 ·split
  ·exact h _ _ _
  ·simp
theorem lD : ∀ (n a c : Nat) (d : ByteArray), (eX n a c d).length ≤ 4 ^ n
 | 0, a, c, d => by simp [eX]
 | n + 1, a, c, d => by
  have h1 := mI n a c d 66 (lD n)
  have h2 := mI n a c d 76 (lD n)
  have h3 := mI n a c d 82 (lD n)
  have h4 := mI n a c d 84 (lD n)
  rw [eX, Nat.pow_succ]
  simp only [List.length_append, List.length_nil]
  omega
theorem tH {n : Nat} (h : n ≤ 6) (a c : Nat) (d : ByteArray) : (eX n a c d).length ≤ 4096 := Nat.le_trans (lD n a c d) (Nat.le_trans (Nat.pow_le_pow_right (by omega) h) (by decide))
theorem nC {n : Nat} (h : n ≤ 6) (a c : Nat) (d : ByteArray) (ch : UInt8) : (fQ (eX n) a c d ch).length ≤ 4096 := Nat.le_trans (mI n a c d ch (lD n)) (Nat.le_trans (Nat.pow_le_pow_right (by omega) h) (by decide))
theorem xe (f : Nat → Nat → ByteArray → List ByteArray) (a c : Nat) (d : ByteArray) : fQ f a c d 66 = if 0 < c then f a (c - 1) (d ++ (⟨#[66]⟩ : ByteArray)) else [] := by unfold fQ; simp
theorem uG (f : Nat → Nat → ByteArray → List ByteArray) (a c : Nat) (d : ByteArray) : fQ f a c d 84 = if 0 < c then f a (c - 1) (d ++ (⟨#[84]⟩ : ByteArray)) else [] := by unfold fQ; simp
theorem xf (f : Nat → Nat → ByteArray → List ByteArray) (a c : Nat) (d : ByteArray) : fQ f a c d 76 = if 0 < a then f (a - 1) c (d ++ (⟨#[76]⟩ : ByteArray)) else [] := by unfold fQ; simp
theorem xg (f : Nat → Nat → ByteArray → List ByteArray) (a c : Nat) (d : ByteArray) : fQ f a c d 82 = if 0 < a then f (a - 1) c (d ++ (⟨#[82]⟩ : ByteArray)) else [] := by unfold fQ; simp
theorem zb (d : ByteArray) (c : UInt8) : (d ++ (⟨#[c]⟩ : ByteArray)).size = d.size + 1 := by rw [ByteArray.size_append]; rfl
theorem wH : ∀ (n : Nat), n ≤ 6 → ∀ (a c : Nat) (d : ByteArray), a + c = n → d.size + n ≤ 100 → Ev (fun k => ay.f k d (a : Int) (c : Int)) (eX n a c d) := by
 intro n
 induction n with
 | zero =>
  intro _ a c d h hd
  obtain rfl : a = 0 := by omega
  obtain rfl : c = 0 := by omega
  refine Ev.step (f := fun k => ay.j0 k d ((0 : Nat) : Int) ((0 : Nat) : Int) (((0 : Nat) : Int) == 0)) (fun k => by rw [ay.f, if_pos (by rfl)]) ?_
  exact Ev.step (f := fun _ => some [d]) (fun k => by rw [ay.j0, if_pos (by rfl)]) (Ev.now _)
 | succ n ih =>
  intro hn a c d h hd
  have hz : ∀ ch : UInt8, (d ++ (⟨#[ch]⟩ : ByteArray)).size + n ≤ 100 := fun ch => by rw [zb]; omega
  have ihc : 0 < c → ∀ ch : UInt8, Ev (fun k => ay.f k (d ++ (⟨#[ch]⟩ : ByteArray)) (a : Int) (wrap64 ((c : Int) - 1))) (eX n a (c - 1) (d ++ (⟨#[ch]⟩ : ByteArray))) := fun hc ch => by
   have := ih (by omega) a (c - 1) _ (by omega) (hz ch)
   rw [w64 (by omega) (by omega), show (c : Int) - 1 = ((c - 1 : Nat) : Int) by omega]
   exact this
  have iha : 0 < a → ∀ ch : UInt8, Ev (fun k => ay.f k (d ++ (⟨#[ch]⟩ : ByteArray)) (wrap64 ((a : Int) - 1)) (c : Int)) (eX n (a - 1) c (d ++ (⟨#[ch]⟩ : ByteArray))) := fun ha ch => by
   have := ih (by omega) (a - 1) c _ (by omega) (hz ch)
   rw [w64 (by omega) (by omega), show (a : Int) - 1 = ((a - 1 : Nat) : Int) by omega]
   exact this
  have l66 := nC (n := n) (by omega) a c d 66
  have l76 := nC (n := n) (by omega) a c d 76
  have l82 := nC (n := n) (by omega) a c d 82
  have l84 := nC (n := n) (by omega) a c d 84
  have j1 : ∀ x : List ByteArray, x.length ≤ 4096 → Ev (fun k => ay.j1 k d (a : Int) (c : Int) x) (x ++ (fQ (eX n) a c d 76 ++ (fQ (eX n) a c d 82 ++ (fQ (eX n) a c d 84 ++ [])))) := by
   intro x hx
   rw [List.append_nil]
   by_cases ha : 0 < a
   ·rw [xf, if_pos ha] at l76 ⊢
    rw [xg, if_pos ha] at l82 ⊢
    refine Ev.step (fun k => by rw [ay.j1, if_pos (by omega), if_pos (by omega)]) ?_
    refine Ev.bind (iha ha 76) ?_
    refine bC (by omega) ?_
    refine Ev.bind (Ev.now _) ?_
    refine Ev.bind (iha ha 82) ?_
    refine bC (by rw [List.length_append]; omega) ?_
    refine Ev.bind (Ev.now _) ?_
    by_cases hc : 0 < c
    ·rw [uG, if_pos hc] at l84 ⊢
     refine bC (by omega) ?_
     refine Ev.bind (ihc hc 84) ?_
     refine bC (by rw [List.length_append, List.length_append]; omega) ?_
     rw [← List.append_assoc, ← List.append_assoc]
     exact Ev.now _
    ·rw [uG, if_neg hc, List.append_nil, ← List.append_assoc]
     exact dW (by omega) (Ev.now _)
   ·rw [xf, if_neg ha, xg, if_neg ha, List.nil_append, List.nil_append]
    by_cases hc : 0 < c
    ·rw [uG, if_pos hc] at l84 ⊢
     refine Ev.step (fun k => by rw [ay.j1, if_neg (by omega), if_pos (by omega), if_pos (by omega)]) ?_
     refine Ev.bind (ihc hc 84) ?_
     refine bC (by omega) ?_
     exact Ev.now _
    ·omega
  have j0 : Ev (fun k => ay.j0 k d (a : Int) (c : Int) false) (eX (n + 1) a c d) := by
   rw [eX]
   by_cases hc : 0 < c
   ·rw [xe, if_pos hc] at l66 ⊢
    refine Ev.step (fun k => by rw [ay.j0, if_neg (by simp)]) ?_
    refine Ev.bind (Ev.now _) ?_
    refine bC (by omega) ?_
    refine bC (by omega) ?_
    refine Ev.bind (ihc hc 66) ?_
    refine bC (by rw [List.length_nil]; omega) ?_
    rw [List.nil_append]
    exact j1 _ l66
   ·rw [xe, if_neg hc]
    refine Ev.step (fun k => by rw [ay.j0, if_neg (by simp)]) ?_
    refine Ev.bind (Ev.now _) ?_
    refine dW (by omega) ?_
    exact j1 [] (by simp)
  by_cases ha : (a : Int) = 0
  ·refine Ev.step (f := fun k => ay.j0 k d (a : Int) (c : Int) ((c : Int) == 0)) (fun k => by rw [ay.f, if_pos ha]) ?_
   rw [show ((c : Int) == 0) = false from beq_false_of_ne (by omega)]
   exact j0
  ·exact Ev.step (fun k => by rw [ay.f, if_neg ha]) j0
theorem rz {a b : Int} {i j : Nat} (h1 : bq.f a = some ((i : Int), true)) (h2 : bq.f b = some ((j : Int), true)) (hi : i ≤ 3) (hj : j ≤ 3) : Ev (fun k => eP.f k a b) (eX (i + j) i j (⟨#[]⟩ : ByteArray)) := by
 unfold eP.f
 rw [h1, h2]
 exact Ev.bind (Ev.now _) (Ev.bind (Ev.now _) (Ev.bind (wH (i + j) (by omega) i j (⟨#[]⟩ : ByteArray) rfl (by show 0 + (i + j) ≤ 100; omega)) (Ev.now _)))
theorem oI {n a c : Nat} {d s : ByteArray} {ch : UInt8} (hch : ([76, 82, 84, 66] : List UInt8).contains ch = true) (h : s ∈ fQ (eX n) a c d ch) (hn : a + c = n + 1) (ih : ∀ (a c : Nat) (d s : ByteArray), a + c = n → s ∈ eX n a c d → ∃ t : List UInt8, s.data.toList = d.data.toList ++ t ∧ (∀ x ∈ t, ([76, 82, 84, 66] : List UInt8).contains x = true) ∧ lrc t = a ∧ t.length = n) : ∃ t : List UInt8, s.data.toList = d.data.toList ++ t ∧ (∀ x ∈ t, ([76, 82, 84, 66] : List UInt8).contains x = true) ∧ lrc t = a ∧ t.length = n + 1 := by
 have hd : (d ++ (⟨#[ch]⟩ : ByteArray)).data.toList = d.data.toList ++ [ch] := by rw [ByteArray.data_append]; simp
 unfold fQ at h
 by_cases h1 : ch = 66 ∨ ch = 84
 ·rw [if_pos h1] at h
  by_cases hc : 0 < c
  ·rw [if_pos hc] at h
   obtain ⟨t, t1, t2, t3, t4⟩ := ih a (c - 1) _ s (by omega) h
   refine ⟨ch :: t, by rw [t1, hd, List.append_assoc]; rfl, fun x hx => ?_, ?_, by rw [List.length_cons, t4]⟩
   ·rcases List.mem_cons.1 hx with rfl | hx
    ·exact hch
    ·exact t2 x hx
   ·rw [kJ, t3, if_neg (by rcases h1 with rfl | rfl <;> decide), Nat.add_zero]
  ·rw [if_neg hc] at h; cases h
 ·rw [if_neg h1] at h
  by_cases hc : 0 < a
  ·rw [if_pos hc] at h
   obtain ⟨t, t1, t2, t3, t4⟩ := ih (a - 1) c _ s (by omega) h
   refine ⟨ch :: t, by rw [t1, hd, List.append_assoc]; rfl, fun x hx => ?_, ?_, by rw [List.length_cons, t4]⟩
   ·rcases List.mem_cons.1 hx with rfl | hx
    ·exact hch
    ·exact t2 x hx
   ·rw [kJ, t3, if_pos (by
     simp only [List.contains_cons, List.contains_nil, Bool.or_false, Bool.or_eq_true, beq_iff_eq] at hch
     rcases hch with e | e | e | e
     ·exact .inl e
     ·exact .inr e
     ·exact (h1 (.inr e)).elim
     ·exact (h1 (.inl e)).elim)]
    omega
  ·rw [if_neg hc] at h; cases h
theorem mD : ∀ (n a c : Nat) (d s : ByteArray), a + c = n → s ∈ eX n a c d → ∃ t : List UInt8, s.data.toList = d.data.toList ++ t ∧ (∀ x ∈ t, ([76, 82, 84, 66] : List UInt8).contains x = true) ∧ lrc t = a ∧ t.length = n
 | 0, a, c, d, s, hn, h => by
  rw [eX, List.mem_singleton] at h
  subst h
  exact ⟨[], by simp, by simp, by show (0 : Nat) = a; omega, rfl⟩
 | n + 1, a, c, d, s, hn, h => by
  rw [eX] at h
  simp only [List.mem_append, List.not_mem_nil, or_false] at h
  rcases h with h | h | h | h
  ·exact oI (by decide) h hn (mD n)
  ·exact oI (by decide) h hn (mD n)
  ·exact oI (by decide) h hn (mD n)
  ·exact oI (by decide) h hn (mD n)
theorem xc {i j : Nat} (hi : i ≤ 3) (hj : j ≤ 3) {s : ByteArray} (h : s ∈ eX (i + j) i j (⟨#[]⟩ : ByteArray)) : kK ((2 ^ i : Nat) : Int) ((2 ^ j : Nat) : Int) s := by
 obtain ⟨t, t1, t2, t3, t4⟩ := mD (i + j) i j _ s rfl h
 have e : s.data.toList = t := by rw [t1]; rfl
 exact ⟨i, j, hi, hj, rfl, rfl, by rw [e]; exact t2, by rw [e]; exact t3, by rw [e]; exact t4⟩
theorem CL {i j : Nat} (h : ((2 ^ i : Nat) : Int) = ((2 ^ j : Nat) : Int)) : i = j := (Nat.pow_right_inj (by omega : 1 < 2)).1 (Int.ofNat.inj h)
theorem pE {i : Nat} (hi : i ≤ 3) : fq.f ((2 ^ i : Nat) : Int) = some true := by
 have h : ∀ i : Fin 4, fq.f ((2 ^ i.val : Nat) : Int) = some true := by decide +kernel
 exact h ⟨i, by omega⟩
theorem qG {i : Nat} (hi : i ≤ 3) : Ev (fun k => bQ.f k ((2 ^ i : Nat) : Int)) (i : Int) := by
 rcases lQ ((2 ^ i : Nat) : Int) with ⟨j, _, j2, _, _, j5⟩ | ⟨_, j4⟩
 ·rw [← CL j2] at j5
  exact j5
 ·rw [pE hi] at j4
  cases j4
theorem uW {a b : Int} {s : ByteArray} (h : kK a b s) : Ev (fun k => ek.f k a b s) true := by
 obtain ⟨i, j, hi, hj, ha, hb, hall, hl, hn⟩ := h
 have hz : s.size = s.data.toList.length := by simp
 have hlr : kW s = lrc s.data.toList := rfl
 subst ha hb
 have hsh : dP.f ((2 ^ i : Nat) : Int) ((2 ^ j : Nat) : Int) = some true := by unfold dP.f; rw [pE hi, pE hj]; rfl
 unfold ek.f
 rw [hsh]
 have e : decide ((s.size : Int) - (kW s : Int) = (j : Int)) = true := decide_eq_true (by rw [hlr, hl]; omega)
 exact Ev.bind (Ev.now _) (bC rfl (bC (by omega) (bC ((rC _ _).2 hall) (Ev.bind (qG hi) (bC (by rw [hlr, hl]) (Ev.bind (qG hj) (Ev.congr (fun k => congrArg some e) (Ev.now true))))))))
theorem Ar {i : Nat} (h : i ≤ 3) : bq.f ((2 ^ i : Nat) : Int) = some ((i : Int), true) := by
 have h' : ∀ i : Fin 4, bq.f ((2 ^ i.val : Nat) : Int) = some ((i.val : Int), true) := by decide +kernel
 exact h' ⟨i, by omega⟩
theorem uC {xs : List ByteArray} {i : Nat} (h : i < xs.length) : iJ ByteArray.empty xs (i : Int) = xs[i] := by
 simp [iJ, List.getD_eq_getElem?_getD, h]
theorem qo (a b : Int) (F B H : List Int) (hf : jS a b F B H) (all : List ByteArray) (hok : ∀ s ∈ all, kK a b s) (hl : all.length ≤ 4096) : ∀ (d i : Nat), i + d = all.length → ∀ acc : List ByteArray, acc.length ≤ i → ∃ r : List ByteArray, Ev (fun k => bz.l0 k all acc (i : Int) a b F B H) (r, 0) ∧ Ev (fun k => kQ (ol k a b F B H) (all.drop i) acc) (false, r) ∧ r.length ≤ all.length ∧ ∀ s ∈ r, s ∈ acc ∨ (s ∈ all ∧ Ev (fun k => bL.f k a b F B H s) true) := by
 intro d
 induction d with
 | zero =>
  intro i hi acc ha
  rw [List.drop_of_length_le (by omega)]
  exact ⟨acc, Ev.step (f := fun _ => some (acc, 0)) (fun k => by rw [bz.l0, if_neg (by omega)]) (Ev.now _), Ev.now _, by omega, fun s hs => .inl hs⟩
 | succ d ih =>
  intro i hi acc ha
  have hil : i < all.length := by omega
  have hg := uC hil
  have hmem := List.getElem_mem hil
  rw [List.drop_eq_getElem_cons hil]
  generalize all[i] = s at hg hmem
  obtain ⟨v, v1, v2⟩ := qa hf (hok s hmem)
  have g0 : (i : Int) < (all.length : Int) := by omega
  have g1 : 0 ≤ (i : Int) := by omega
  have hw := jH i (by omega)
  cases v with
  | false =>
   obtain ⟨r, r1, r2, r3, r4⟩ := ih (i + 1) (by omega) acc (by omega)
   refine ⟨r, ?_, ?_, r3, r4⟩
   ·refine Ev.step (f := fun k => (bX.f k a b F B H s).bind fun t => (if t = true then (if acc.length < 8796093022208 then (bz.l0 k all (acc ++ [s]) ((i + 1 : Nat) : Int) a b F B H) else (none)) else (bz.l0 k all acc ((i + 1 : Nat) : Int) a b F B H))) (fun k => ?_) (Ev.bind v1 (dW (by simp) r1))
    rw [bz.l0, if_pos g0, if_pos g1, hg, hw]
   ·have hp : Ev (fun k => ol k a b F B H s acc) (false, acc) := by
     unfold ol
     exact Ev.bind v2 (dW (by simp) (Ev.now _))
    refine Ev.congr (f := fun k => (ol k a b F B H s acc).bind fun r => if r.1 = true then some (true, r.2) else kQ (ol k a b F B H) (all.drop (i + 1)) r.2) (fun k => by rw [kQ]) (Ev.bind hp (dW (by simp) r2))
  | true =>
   obtain ⟨r, r1, r2, r3, r4⟩ := ih (i + 1) (by omega) (acc ++ [s]) (by rw [List.length_append]; simp; omega)
   refine ⟨r, ?_, ?_, r3, fun q hq => ?_⟩
   ·refine Ev.step (f := fun k => (bX.f k a b F B H s).bind fun t => (if t = true then (if acc.length < 8796093022208 then (bz.l0 k all (acc ++ [s]) ((i + 1 : Nat) : Int) a b F B H) else (none)) else (bz.l0 k all acc ((i + 1 : Nat) : Int) a b F B H))) (fun k => ?_) (Ev.bind v1 (bC rfl (bC (by omega) r1)))
    rw [bz.l0, if_pos g0, if_pos g1, hg, hw]
   ·have hp : Ev (fun k => ol k a b F B H s acc) (false, acc ++ [s]) := by
     unfold ol
     exact Ev.bind v2 (bC rfl (bC (by omega) (Ev.now _)))
    refine Ev.congr (f := fun k => (ol k a b F B H s acc).bind fun r => if r.1 = true then some (true, r.2) else kQ (ol k a b F B H) (all.drop (i + 1)) r.2) (fun k => by rw [kQ]) (Ev.bind hp (dW (by simp) r2))
   ·rcases r4 q hq with h | h
    ·rcases List.mem_append.1 h with h | h
     ·exact .inl h
     ·rw [List.mem_singleton] at h
      subst h
      exact .inr ⟨hmem, v2⟩
    ·exact .inr h
theorem ru (a b : Int) (F B H : List Int) (hl : H.length ≤ 1048576) : ∃ r : List ByteArray × Int, Ev (fun k => bz.f k a b F B H) r ∧ Ev (fun k => ed.f k a b F B H) r ∧ r.1.length ≤ 4096 ∧ (r.1 = [] ∨ jS a b F B H) ∧ ∀ s ∈ r.1, kK a b s ∧ Ev (fun k => bL.f k a b F B H s) true := by
 obtain ⟨v, v1, v2, v3⟩ := nX a b F B H hl
 cases v with
 | false =>
  refine ⟨([], 1), ?_, ?_, by simp, .inl rfl, fun s hs => by cases hs⟩
  ·unfold bz.f
   exact Ev.bind v1 (dW (by simp) (Ev.now _))
  ·unfold ed.f
   exact Ev.bind v2 (dW (by simp) (Ev.now _))
 | true =>
  have hok := v3.1 rfl
  obtain ⟨i, j, i1, j1, ha, hb, _⟩ := sQ hok
  have hlen := tH (n := i + j) (by omega) i j (⟨#[]⟩ : ByteArray)
  have hall : ∀ s ∈ eX (i + j) i j (⟨#[]⟩ : ByteArray), kK a b s := fun s hs => by rw [ha, hb]; exact xc i1 j1 hs
  obtain ⟨r, r1, r2, r3, r4⟩ := qo a b F B H hok _ hall hlen (eX (i + j) i j (⟨#[]⟩ : ByteArray)).length 0 (by omega) [] (by simp)
  refine ⟨(r, 0), ?_, ?_, Nat.le_trans r3 hlen, .inr hok, fun s hs => ?_⟩
  ·unfold bz.f
   refine Ev.bind v1 (bC rfl (Ev.bind ?_ r1))
   exact rz (by rw [ha]; exact Ar i1) (by rw [hb]; exact Ar j1) i1 j1
  ·unfold ed.f
   refine Ev.bind v2 (bC rfl (Ev.bind (a := (i : Int)) (by rw [ha]; exact qG i1) (Ev.bind (a := (j : Int)) (by rw [hb]; exact qG j1) (bC ⟨by omega, by omega, by omega, by omega⟩ ?_))))
   rw [Int.toNat_natCast, Int.toNat_natCast]
   exact Ev.bind r2 (Ev.now _)
  ·rcases r4 s hs with h | ⟨h, h'⟩
   ·cases h
   ·exact ⟨hall s h, h'⟩
def EvP {α : Type} (f : Nat → Option α) (P : α → Prop) : Prop := ∃ r, Ev f r ∧ P r
theorem EvP.bind {α β : Type} {g : Nat → Option α} {f : Nat → α → Option β} {a : α} {P : β → Prop} (h : Ev g a) (k : EvP (fun n => f n a) P) : EvP (fun n => (g n).bind (f n)) P := by
 obtain ⟨r, k, p⟩ := k
 exact ⟨r, Ev.bind h k, p⟩
theorem EvP.jk {α : Type} {c : Prop} [Decidable c] {f g : Nat → Option α} {P : α → Prop} (h : c) (k : EvP f P) : EvP (fun n => if c then f n else g n) P := by
 obtain ⟨r, k, p⟩ := k
 exact ⟨r, bC h k, p⟩
theorem EvP.mr {α : Type} {c : Prop} [Decidable c] {f g : Nat → Option α} {P : α → Prop} (h : ¬ c) (k : EvP g P) : EvP (fun n => if c then f n else g n) P := by
 obtain ⟨r, k, p⟩ := k
 exact ⟨r, dW h k, p⟩
theorem EvP.now {α : Type} {a : α} {P : α → Prop} (p : P a) : EvP (fun _ => some a) P := ⟨a, Ev.now a, p⟩
theorem EvP.step {α : Type} {f g : Nat → Option α} {P : α → Prop} (h : ∀ k, f (k + 1) = g k) (k : EvP g P) : EvP f P := by
 obtain ⟨r, k, p⟩ := k
 exact ⟨r, Ev.step h k, p⟩
theorem Ev.eq {α : Type} {x : Option α} {a : α} (h : x = some a) : Ev (fun _ : Nat => x) a := Ev.congr (fun _ => h) (Ev.now _)
def Src (c : List Int) (a s : Int) : Prop := c.length ≤ 4096 ∧ (∀ x ∈ c, 0 ≤ x ∧ x ≤ 255) ∧ 0 ≤ a ∧ a ≤ c.length ∧ 0 ≤ s ∧ s < 2147483647
theorem kR {x m : Int} (h : 0 ≤ x) (hm : 0 < m) : 0 ≤ Int.tmod x m ∧ Int.tmod x m < m := ⟨Int.tmod_nonneg _ h, Int.tmod_lt_of_pos _ hm⟩
theorem wZ {c : List Int} (hc : ∀ x ∈ c, 0 ≤ x ∧ x ≤ 255) (i : Int) : 0 ≤ rd c i ∧ rd c i ≤ 255 := by
 unfold rd
 by_cases h : i.toNat < c.length
 ·simp only [List.getD_eq_getElem?_getD, List.getElem?_eq_getElem h, Option.getD_some]
  exact hc _ (List.getElem_mem h)
 ·simp only [List.getD_eq_getElem?_getD, List.getElem?_eq_none (Nat.le_of_not_lt h), Option.getD_none]
  omega
theorem jF {c : List Int} {a s : Int} (h : Src c a s) (n : Int) (hn : n ≤ 9000000000000000000) :
  ∃ r a' s', aT.f c a s n = some (r, a', s') ∧ Src c a' s' ∧ 0 ≤ r ∧ (1 ≤ n → r < n) := by
 obtain ⟨h1, h2, h3, h4, h5, h6⟩ := h
 unfold aT.f
 by_cases hn1 : n ≤ 1
 ·rw [if_pos hn1]
  exact ⟨0, a, s, rfl, ⟨h1, h2, h3, h4, h5, h6⟩, by omega, by omega⟩
 ·rw [if_neg hn1]
  have e1 : wrap64 (wrap64 (s * 48271) + 61) = s * 48271 + 61 := by rw [w64 (x := s * 48271) (by omega) (by omega), w64 (by omega) (by omega)]
  rw [e1]
  have m1 := kR (x := s * 48271 + 61) (m := 2147483647) (by omega) (by omega)
  generalize Int.tmod (s * 48271 + 61) 2147483647 = s1 at *
  have d1 : 0 ≤ Int.tdiv s1 31 ∧ Int.tdiv s1 31 ≤ 2147483647 := by
   rw [Int.tdiv_eq_ediv_of_nonneg m1.1]; omega
  rw [w64 (x := Int.tdiv s1 31) (by omega) (by omega)]
  generalize Int.tdiv s1 31 = q at *
  by_cases ha : a < (c.length : Int)
  ·have e2 : wrap64 (a + 1) = a + 1 := w64 (by omega) (by omega)
   have e3 : wrap64 (a + 1 - 1) = a := by rw [w64 (by omega) (by omega)]; omega
   have b1 := wZ h2 a
   rw [if_pos ha, if_pos h3, e2, e3, w64 (x := rd c a) (by omega) (by omega), w64 (x := q + rd c a) (by omega) (by omega)]
   have r1 := kR (x := rd c a) (m := n) b1.1 (by omega)
   have r2 := kR (x := q + rd c a) (m := n) (by omega) (by omega)
   have hs : Src c (a + 1) s1 := ⟨h1, h2, by omega, by omega, m1.1, m1.2⟩
   by_cases hb : n ≤ 256
   ·rw [if_pos hb]
    by_cases hc : Int.tmod (a + 1) 2 = 0
    ·rw [if_pos hc, if_pos h3, if_pos ha, if_neg (by omega)]
     exact ⟨_, _, _, rfl, hs, r1.1, fun _ => r1.2⟩
    ·rw [if_neg hc, if_neg (by omega)]
     exact ⟨_, _, _, rfl, hs, r2.1, fun _ => r2.2⟩
   ·rw [if_neg hb, if_neg (by omega)]
    exact ⟨_, _, _, rfl, hs, r2.1, fun _ => r2.2⟩
  ·rw [if_neg ha, if_neg (by omega)]
   have r1 := kR (x := q) (m := n) (by omega) (by omega)
   exact ⟨_, _, _, rfl, ⟨h1, h2, h3, h4, m1.1, m1.2⟩, r1.1, fun _ => r1.2⟩
theorem zK (c : List Int) (hc : c.length ≤ 4096) (hb : ∀ x ∈ c, 0 ≤ x ∧ x ≤ 255) : ∃ a s, Ev (fun k => bM.f k c) (c, a, s) ∧ Src c a s := by
 have loop : ∀ (d i : Nat), i + d = c.length → ∀ s : Int, 0 ≤ s → s < 2147483647 → ∃ s', 0 ≤ s' ∧ s' < 2147483647 ∧ Ev (fun k => bM.l0 k c (i : Int) c 0 s) (c, 0, s') := by
  intro d
  induction d with
  | zero =>
   intro i hi s h0 h1
   exact ⟨s, h0, h1, Ev.step (f := fun _ => some (c, 0, s)) (fun k => by rw [bM.l0, if_neg (by omega)]) (Ev.now _)⟩
  | succ d ih =>
   intro i hi s h0 h1
   by_cases h64 : i < 64
   ·have b1 := wZ hb (i : Int)
    have e1 : wrap64 (wrap64 (s * 71) + wrap64 (rd c (i : Int))) = s * 71 + rd c (i : Int) := by
     rw [w64 (x := s * 71) (by omega) (by omega), w64 (x := rd c (i : Int)) (by omega) (by omega), w64 (by omega) (by omega)]
    have m1 := kR (x := s * 71 + rd c (i : Int)) (m := 2147483647) (by omega) (by omega)
    obtain ⟨s', g0, g1, g2⟩ := ih (i + 1) (by omega) (Int.tmod (s * 71 + rd c (i : Int)) 2147483647) m1.1 m1.2
    refine ⟨s', g0, g1, Ev.step (fun k => ?_) g2⟩
    rw [bM.l0, if_pos (by omega), if_pos (by omega), if_pos (by omega), jH i (by omega), e1]
   ·exact ⟨s, h0, h1, Ev.step (f := fun _ => some (c, 0, s)) (fun k => by rw [bM.l0, if_pos (by omega), if_neg (by omega)]) (Ev.now _)⟩
 obtain ⟨s', g0, g1, g2⟩ := loop c.length 0 (by omega) 88007 (by omega) (by omega)
 exact ⟨0, s', Ev.congr (fun k => rfl) g2, hc, hb, by omega, by omega, g0, g1⟩
theorem qJ {c : List Int} {a s : Int} (h : Src c a s) (l : List Int) (h0 : 0 < l.length) (h1 : l.length ≤ 1000) :
  ∃ r a' s', eu.f c a s l = some (r, a', s') ∧ Src c a' s' ∧ r ∈ l := by
 obtain ⟨r, a', s', e, hs, h2, h3⟩ := jF h (l.length : Int) (by omega)
 have h4 := h3 (by omega)
 unfold eu.f
 rw [e]
 simp only [Option.bind_some]
 rw [if_pos h2, if_pos h4]
 refine ⟨_, _, _, rfl, hs, ?_⟩
 obtain ⟨m, rfl⟩ := Int.eq_ofNat_of_zero_le h2
 exact mG (by omega)
theorem wL (l : List Int) : (strOfNums l).size = l.length := by
 show (List.map _ l).toArray.size = _
 simp
theorem pV {c : List Int} {a s : Int} (h : Src c a s) : ∃ r a' s', eG.f c a s = some (r, a', s') ∧ Src c a' s' ∧ -1 ≤ r ∧ r ≤ 16 := by
 obtain ⟨m, a1, s1, e1, h1, _, _⟩ := jF h 40 (by omega)
 unfold eG.f
 rw [e1]
 simp only [Option.bind_some]
 by_cases hm : m = 0
 ·obtain ⟨r, a2, s2, e2, h2, h3⟩ := qJ h1 [0, 3, (-1), 16] (by simp) (by simp)
  rw [if_pos hm, e2]
  refine ⟨r, a2, s2, rfl, h2, ?_⟩
  simp only [List.mem_cons, List.not_mem_nil, or_false] at h3
  omega
 ·obtain ⟨r, a2, s2, e2, h2, h3⟩ := qJ h1 [1, 2, 2, 4, 4, 8] (by simp) (by simp)
  rw [if_neg hm, e2]
  refine ⟨r, a2, s2, rfl, h2, ?_⟩
  simp only [List.mem_cons, List.not_mem_nil, or_false] at h3
  omega
theorem vv (a : Int) : ∃ (j : Nat) (q : Bool), j ≤ 3 ∧ bq.f a = some ((j : Int), q) := by
 unfold bq.f
 by_cases h1 : a = 1
 ·exact ⟨0, true, by decide, if_pos h1⟩
 by_cases h2 : a = 2
 ·exact ⟨1, true, by decide, by rw [if_neg h1, if_pos h2]; rfl⟩
 by_cases h4 : a = 4
 ·exact ⟨2, true, by decide, by rw [if_neg h1, if_neg h2, if_pos h4]; rfl⟩
 by_cases h8 : a = 8
 ·exact ⟨3, true, by decide, by rw [if_neg h1, if_neg h2, if_neg h4, if_pos h8]; rfl⟩
 ·exact ⟨0, false, by decide, by rw [if_neg h1, if_neg h2, if_neg h4, if_neg h8]; rfl⟩
theorem uk {c : List Int} {a s : Int} (h0 : Src c a s) : ∃ w h t a' s', Ev (fun k => cZ.f k c a s) (w, h, t, a', s') ∧ Src c a' s' ∧ t.size ≤ 7 ∧ -1 ≤ w ∧ w ≤ 16 ∧ -1 ≤ h ∧ h ≤ 16 := by
 obtain ⟨w, a1, s1, e1, h1, w0, w1⟩ := pV h0
 obtain ⟨h, a2, s2, e2, h2, v0, v1⟩ := pV h1
 obtain ⟨i, qi, i1, e3⟩ := vv w
 obtain ⟨j, qj, j1, e4⟩ := vv h
 have loop : ∀ (d i j : Nat) (x : List Int) (a s : Int), i + j = d → Src c a s → x.length + d ≤ 6 → ∃ t a' s', Ev (fun k => cZ.l0 k w h (i : Int) (j : Int) x c a s) (w, h, t, a', s') ∧ Src c a' s' ∧ t.size ≤ 7 := by
  intro d
  induction d with
  | zero =>
   intro i j x a s hd h hx
   obtain ⟨m, a2, s2, e2, h2, m0, _⟩ := jF h 40 (by omega)
   have hz := wL x
   have hg : ¬ wrap64 ((i : Int) + (j : Int)) > 0 := by rw [w64 (by omega) (by omega)]; omega
   by_cases m1 : m = 0
   ·refine ⟨_, a2, s2, Ev.step (f := fun _ => some (w, _, (strOfNums x) ++ (⟨#[76]⟩ : ByteArray), a2, s2)) (fun k => ?_) (Ev.now _), h2, ?_⟩
    ·rw [cZ.l0, if_neg hg, e2]
     simp only [Option.bind_some]
     rw [if_pos m1, if_pos (by omega)]
    ·rw [ByteArray.size_append]
     show (strOfNums x).size + 1 ≤ 7
     omega
   ·by_cases m2 : m = 1
    ·refine ⟨_, a2, s2, Ev.step (f := fun _ => some (w, _, (⟨#[120]⟩ : ByteArray), a2, s2)) (fun k => ?_) (Ev.now _), h2, (show 1 ≤ 7 by omega)⟩
     rw [cZ.l0, if_neg hg, e2]
     simp only [Option.bind_some]
     rw [if_neg m1, if_pos m2]
    ·refine ⟨_, a2, s2, Ev.step (f := fun _ => some (w, _, strOfNums x, a2, s2)) (fun k => ?_) (Ev.now _), h2, by omega⟩
     rw [cZ.l0, if_neg hg, e2]
     simp only [Option.bind_some]
     rw [if_neg m1, if_neg m2]
  | succ d ih =>
   intro i j x a s hd h hx
   have hw : wrap64 ((i : Int) + (j : Int)) = (i : Int) + (j : Int) := w64 (by omega) (by omega)
   have hg : wrap64 ((i : Int) + (j : Int)) > 0 := by rw [hw]; omega
   obtain ⟨p, a1, s1, e1, h1, p0, p1⟩ := jF h ((i : Int) + (j : Int)) (by omega)
   have p2 := p1 (by omega)
   obtain ⟨m, a2, s2, e2, h2, m0, m1⟩ := jF h1 2 (by omega)
   have m2 := m1 (by omega)
   by_cases hp : p < (i : Int)
   ·obtain ⟨t, a', s', g1, g2, g3⟩ := ih (i - 1) j (x ++ [bt (⟨#[76, 82]⟩ : ByteArray) m]) a2 s2 (by omega) h2 (by rw [List.length_append]; simp; omega)
    refine ⟨t, a', s', Ev.step (fun k => ?_) g1, g2, g3⟩
    rw [cZ.l0, if_pos hg, hw, e1]
    simp only [Option.bind_some]
    rw [if_pos hp, e2]
    simp only [Option.bind_some]
    rw [if_pos m0, if_pos m2, if_pos (by omega), w64 (x := (i : Int) - 1) (by omega) (by omega), show (i : Int) - 1 = ((i - 1 : Nat) : Int) by omega]
   ·obtain ⟨t, a', s', g1, g2, g3⟩ := ih i (j - 1) (x ++ [bt (⟨#[84, 66]⟩ : ByteArray) m]) a2 s2 (by omega) h2 (by rw [List.length_append]; simp; omega)
    refine ⟨t, a', s', Ev.step (fun k => ?_) g1, g2, g3⟩
    rw [cZ.l0, if_pos hg, hw, e1]
    simp only [Option.bind_some]
    rw [if_neg hp, e2]
    simp only [Option.bind_some]
    rw [if_pos m0, if_pos m2, if_pos (by omega), w64 (x := (j : Int) - 1) (by omega) (by omega), show (j : Int) - 1 = ((j - 1 : Nat) : Int) by omega]
 obtain ⟨t, a', s', g1, g2, g3⟩ := loop (i + j) i j [] a2 s2 rfl h2 (by simp; omega)
 refine ⟨w, h, t, a', s', ?_, g2, g3, w0, w1, v0, v1⟩
 unfold cZ.f
 simp only [e1, e2, e3, e4, Option.bind_some]
 exact g1
theorem rA (l : List Int) (g : Int → Int) (i : Nat) (h : i < l.length) : (l.take (i + 1)).map g = (l.take i).map g ++ [g l[i]] := by
 rw [List.take_add_one, List.getElem?_eq_getElem h, List.map_append]
 rfl
theorem tJ (l : List Int) (by_ : Int) (hl : l.length ≤ 1000000) : Ev (fun k => bY.f k l by_) (l.map (fun x => wrap64 (x + by_))) := by
 have loop : ∀ (d i : Nat), i + d = l.length → Ev (fun k => bY.l0 k l by_ ((l.take i).map (fun x => wrap64 (x + by_))) (i : Int)) (l.map (fun x => wrap64 (x + by_))) := by
  intro d
  induction d with
  | zero =>
   intro i hi
   obtain rfl : i = l.length := by omega
   rw [List.take_length]
   exact Ev.step (f := fun _ => some (l.map (fun x => wrap64 (x + by_)))) (fun k => by rw [bY.l0, if_neg (by omega)]) (Ev.now _)
  | succ d ih =>
   intro i hi
   have hil : i < l.length := by omega
   have h1 := ih (i + 1) (by omega)
   rw [rA l _ i hil] at h1
   have hlen : ((l.take i).map (fun x => wrap64 (x + by_))).length < 17592186044416 := by rw [List.length_map, List.length_take]; omega
   have w := jH i (by omega)
   refine Ev.step (fun k => ?_) h1
   rw [bY.l0, if_pos (by omega), if_pos (by omega), if_pos hlen, iP hil, w]
 exact Ev.congr (fun _ => by rw [bY.f]; rfl) (loop l.length 0 (by omega))
theorem zN (a b : Int) (s : ByteArray) (hs : s.size ≤ 1048576) : EvP (fun k => dG.f k a b s) (fun r => (r.2.2.2.2.2 = 0 → kK a b s ∧ 0 < r.2.2.1.length ∧ r.2.2.1.length ≤ 64 ∧ r.2.2.2.1.length = r.2.2.1.length ∧ r.2.2.2.2.1.length = r.2.2.1.length)) := by
 obtain ⟨c, c1, c2, c3, c4⟩ := Al a b s hs
 unfold dG.f
 refine EvP.bind c1 ?_
 by_cases hc : c = 0
 ·obtain ⟨A, C, l, hA, hC, hA0, hC0, ha, hb, hl, hin, h1, h2⟩ := vH (c4 hc)
  have h64 : A * C ≤ 64 := Nat.mul_le_mul hA hC
  have h0 : 0 < A * C := Nat.mul_pos hA0 hC0
  refine EvP.jk hc (EvP.bind h2 (EvP.now ?_))
  intro _
  obtain ⟨q1, q2, q3⟩ := qU A l 0 (z3_ (A * C))
  simp only [z3_, List.length_replicate] at q1 q2 q3 ⊢
  exact ⟨c4 hc, by omega, by omega, by omega, by omega⟩
 ·exact EvP.mr hc (EvP.now (fun z => (hc z).elim))
theorem pU {c : List Int} {a s : Int} (h0 : Src c a s) : EvP (fun k => aK.f k c a s) (fun r => Src c r.2.2.2.2.2.2.1 r.2.2.2.2.2.2.2 ∧ 0 < r.2.2.1.length ∧ r.2.2.1.length ≤ 100 ∧ r.2.2.2.1.length ≤ 100 ∧ r.2.2.2.2.1.length ≤ 100 ∧ r.2.2.2.2.2.1.size ≤ 7) := by
 obtain ⟨w, h, t, a1, s1, d1, h1, ht, _, _, _, _⟩ := uk h0
 obtain ⟨⟨w', h', F, B, H, e⟩, i1, i2⟩ := zN w h t (by omega)
 unfold aK.f
 refine EvP.bind d1 (EvP.bind i1 ?_)
 simp only at i2
 by_cases he : e = 0
 ·obtain ⟨_, f0, f1, f2, f3⟩ := i2 he
  refine EvP.jk he ?_
  obtain ⟨m, a2, s2, e2, h2, m0, _⟩ := jF h1 200 (by omega)
  obtain ⟨q, a3, s3, e3, h3, _⟩ := qJ h2 [0, 0, 16, m] (by simp) (by simp)
  have sF := tJ F q (by omega)
  have sB := tJ B q (by omega)
  have lF : (F.map (fun x => wrap64 (x + q))).length = F.length := by simp
  have lB : (B.map (fun x => wrap64 (x + q))).length = B.length := by simp
  generalize F.map (fun x => wrap64 (x + q)) = F' at sF lF
  generalize B.map (fun x => wrap64 (x + q)) = B' at sB lB
  obtain ⟨k, a4, s4, e4, h4, k0, k1⟩ := jF h3 (F'.length : Int) (by omega)
  have k2 : k < (F'.length : Int) := k1 (by omega)
  obtain ⟨z, a5, s5, e5, h5, _, _⟩ := jF h4 16 (by omega)
  refine EvP.bind (Ev.eq e2) (EvP.bind (Ev.eq e3) (EvP.bind sF (EvP.bind sB (EvP.bind (Ev.eq e4) (EvP.bind (Ev.eq e5) ?_)))))
  have fin : ∀ (F B H : List Int) (a' s' : Int), Src c a' s' → 0 < F.length → F.length ≤ 100 → B.length ≤ 100 → H.length ≤ 100 → EvP (fun k => aK.j0 k t c a' s' w' h' F B H) (fun r => Src c r.2.2.2.2.2.2.1 r.2.2.2.2.2.2.2 ∧ 0 < r.2.2.1.length ∧ r.2.2.1.length ≤ 100 ∧ r.2.2.2.1.length ≤ 100 ∧ r.2.2.2.2.1.length ≤ 100 ∧ r.2.2.2.2.2.1.size ≤ 7) := fun F B H a' s' p1 p2 p3 p4 p5 =>
   EvP.step (g := fun _ => some (w', h', F, B, H, t, a', s')) (fun k => by rw [aK.j0]) (EvP.now ⟨p1, p2, p3, p4, p5, ht⟩)
  have hH : H.length ≤ 100 := by omega
  have hk : k < (H.length : Int) := by omega
  have hk2 : k < (B'.length : Int) := by omega
  have hH1 : H.length < 17592186044416 := by omega
  have a1_ : 0 < F'.length := by omega
  have a2_ : F'.length ≤ 100 := by omega
  have a3_ : B'.length ≤ 100 := by omega
  have st : ∀ (l : List Int) (q : Nat) (v : Int), (l.set q v).length = l.length := fun l q v => List.length_set
  by_cases z0 : z = 0
  ·exact EvP.jk z0 (EvP.jk k0 (EvP.jk hk (fin _ _ _ _ _ h5 a1_ a2_ a3_ (by rw [st]; exact hH))))
  refine EvP.mr z0 ?_
  by_cases z1 : z = 1
  ·exact EvP.jk z1 (EvP.jk k0 (EvP.jk k2 (EvP.jk hk2 (fin _ _ _ _ _ h5 (by rw [st]; exact a1_) (by rw [st]; exact a2_) (by rw [st]; exact a3_) hH))))
  refine EvP.mr z1 ?_
  by_cases z2 : z = 2
  ·obtain ⟨u, a6, s6, e6, h6, _⟩ := qJ h5 [0, 1, rd F' 0, 1000000000] (by simp) (by simp)
   exact EvP.jk z2 (EvP.jk (by omega) (EvP.bind (Ev.eq e6) (EvP.jk k0 (EvP.jk k2 (fin _ _ _ _ _ h6 (by rw [st]; exact a1_) (by rw [st]; exact a2_) a3_ hH)))))
  refine EvP.mr z2 ?_
  by_cases z3 : z = 3
  ·obtain ⟨u, a6, s6, e6, h6, _, _⟩ := jF h5 3 (by omega)
   refine EvP.jk z3 (EvP.bind (Ev.eq e6) ?_)
   by_cases u0 : u = 0
   ·exact EvP.jk u0 (EvP.jk hH1 (fin _ _ _ _ _ h6 a1_ a2_ a3_ (by rw [List.length_append]; show H.length + 1 ≤ 100; omega)))
   ·exact EvP.mr u0 (fin _ _ _ _ _ h6 a1_ a2_ a3_ hH)
  exact EvP.mr z3 (fin _ _ _ _ _ h5 a1_ a2_ a3_ hH)
 ·exact EvP.mr he (EvP.now ⟨h1, by simp, by simp, by simp, by simp, ht⟩)
theorem pI (a : Int) : (∃ i : Nat, i ≤ 3 ∧ a = ((2 ^ i : Nat) : Int) ∧ bq.f a = some ((i : Int), true)) ∨ bq.f a = some (0, false) := by
 unfold bq.f
 by_cases h1 : a = 1
 ·exact .inl ⟨0, by decide, h1, if_pos h1⟩
 by_cases h2 : a = 2
 ·exact .inl ⟨1, by decide, h2, by rw [if_neg h1, if_pos h2]; rfl⟩
 by_cases h4 : a = 4
 ·exact .inl ⟨2, by decide, h4, by rw [if_neg h1, if_neg h2, if_pos h4]; rfl⟩
 by_cases h8 : a = 8
 ·exact .inl ⟨3, by decide, h8, by rw [if_neg h1, if_neg h2, if_neg h4, if_pos h8]; rfl⟩
 ·exact .inr (by rw [if_neg h1, if_neg h2, if_neg h4, if_neg h8])
theorem rq : ∀ (n a c : Nat) (d : ByteArray), n ≤ a + c → 0 < (eX n a c d).length
 | 0, _, _, _, _ => by simp [eX]
 | n + 1, a, c, d, h => by
  unfold eX
  by_cases ha : 0 < a
  ·have := rq n (a - 1) c (d ++ (⟨#[76]⟩ : ByteArray)) (by omega)
   have e : fQ (eX n) a c d 76 = eX n (a - 1) c (d ++ (⟨#[76]⟩ : ByteArray)) := by
    unfold fQ
    rw [if_neg (by decide), if_pos ha]
   rw [List.length_append, List.length_append, e]
   omega
  ·have hc : 0 < c := by omega
   have := rq n a (c - 1) (d ++ (⟨#[66]⟩ : ByteArray)) (by omega)
   have e : fQ (eX n) a c d 66 = eX n a (c - 1) (d ++ (⟨#[66]⟩ : ByteArray)) := by
    unfold fQ
    rw [if_pos (by decide), if_pos hc]
   rw [List.length_append, e]
   omega
theorem Bn (a b : Int) : (∃ i j : Nat, i ≤ 3 ∧ j ≤ 3 ∧ a = ((2 ^ i : Nat) : Int) ∧ b = ((2 ^ j : Nat) : Int) ∧ bq.f a = some ((i : Int), true) ∧ bq.f b = some ((j : Int), true) ∧ dE.f a b = some true) ∨ dE.f a b = some false := by
 unfold dE.f
 rcases pI a with ⟨i, hi, ea, ha⟩ | ha
 ·rcases pI b with ⟨j, hj, eb, hb⟩ | hb
  ·exact .inl ⟨i, j, hi, hj, ea, eb, ha, hb, by rw [ha, hb]; rfl⟩
  ·exact .inr (by rw [ha, hb]; rfl)
 ·rcases pI b with ⟨j, hj, eb, hb⟩ | hb
  ·exact .inr (by rw [ha, hb]; rfl)
  ·exact .inr (by rw [ha, hb]; rfl)
theorem uS {c : List Int} {at0 sd0 : Int} (e0 : Ev (fun k => bM.f k c) (c, at0, sd0)) (h0 : Src c at0 sd0) : EvP (fun k => aX.f k c) (fun r => r.2.2.1.length ≤ 100 ∧ r.2.2.2.1.length ≤ 100 ∧ r.2.2.2.2.1.length ≤ 100 ∧ r.2.2.2.2.2.size ≤ 7) := by
 obtain ⟨⟨a, b, F, B, H, t, a1, s1⟩, d1, d2⟩ := pU h0
 obtain ⟨d2, f0, f1, f2, f3, f4⟩ := d2
 simp only at d2 f0 f1 f2 f3 f4
 obtain ⟨m, a2, s2, e2, h2, _, _⟩ := jF d2 3 (by omega)
 unfold aX.f
 refine EvP.bind e0 (EvP.bind d1 (EvP.bind (Ev.eq e2) ?_))
 have plain : EvP (fun k => aX.j0 k t false c a2 s2 a b F B H) (fun r => r.2.2.1.length ≤ 100 ∧ r.2.2.2.1.length ≤ 100 ∧ r.2.2.2.2.1.length ≤ 100 ∧ r.2.2.2.2.2.size ≤ 7) :=
  EvP.step (g := fun _ => some (a, b, F, B, H, t)) (fun k => by rw [aX.j0, if_neg (by simp)]) (EvP.now ⟨f1, f2, f3, f4⟩)
 by_cases hm : m = 0
 ·refine EvP.jk hm ?_
  rcases Bn a b with ⟨i, j, hi, hj, ea, eb, pa, pb, hs⟩ | hs
  ·refine EvP.bind (Ev.eq hs) (EvP.jk rfl ?_)
   by_cases hq : wrap64 (a * b) ≤ 16
   ·have hall := rz pa pb hi hj
    have hpos := rq (i + j) i j (⟨#[]⟩ : ByteArray) (Nat.le_refl _)
    have hlen := tH (n := i + j) (by omega) i j (⟨#[]⟩ : ByteArray)
    have hmem : ∀ s ∈ eX (i + j) i j (⟨#[]⟩ : ByteArray), s.size ≤ 7 := fun s hs => by
     obtain ⟨i', j', i1, j1, _, _, _, _, hz⟩ := xc hi hj hs
     have : s.size = s.data.toList.length := by simp
     omega
    generalize eX (i + j) i j (⟨#[]⟩ : ByteArray) = all at hall hpos hlen hmem
    obtain ⟨r, a3, s3, e3, _, r0, r1⟩ := jF h2 (all.length : Int) (by omega)
    have r2 := r1 (by omega)
    obtain ⟨q, rfl⟩ := Int.eq_ofNat_of_zero_le r0
    have hql : q < all.length := Int.ofNat_lt.1 r2
    refine EvP.step (g := fun k => (eP.f k a b).bind fun x => (aT.f c a2 s2 (x.length : Int)).bind fun bt => if 0 ≤ bt.1 then (if bt.1 < (x.length : Int) then (some (a, b, F, B, H, iJ ByteArray.empty x bt.1)) else none) else none) (fun k => by rw [aX.j0, if_pos (decide_eq_true hq)]) ?_
    refine EvP.bind hall (EvP.bind (Ev.eq e3) (EvP.jk r0 (EvP.jk r2 (EvP.now ⟨f1, f2, f3, ?_⟩))))
    show (iJ ByteArray.empty all (q : Int)).size ≤ 7
    rw [uC hql]
    exact hmem _ (List.getElem_mem hql)
   ·rw [decide_eq_false hq]
    exact plain
  ·exact EvP.bind (Ev.eq hs) (EvP.mr (by simp) plain)
 ·exact EvP.mr hm plain
theorem rW (a b : Int) (s : ByteArray) (hs : s.size ≤ 1048576) : EvP (fun k => dG.f k a b s) (fun r => r.2.2.2.2.1.length ≤ 64) := by
 obtain ⟨c, c1, c2, c3, c4⟩ := Al a b s hs
 unfold dG.f
 refine EvP.bind c1 ?_
 by_cases hc : c = 0
 ·obtain ⟨A, C, l, hA, hC, hA0, hC0, ha, hb, hl, hin, h1, h2⟩ := vH (c4 hc)
  have h64 : A * C ≤ 64 := Nat.mul_le_mul hA hC
  refine EvP.jk hc (EvP.bind h2 (EvP.now ?_))
  obtain ⟨q1, q2, q3⟩ := qU A l 0 (z3_ (A * C))
  simp only [z3_, List.length_replicate] at q1 q2 q3 ⊢
  omega
 ·exact EvP.mr hc (EvP.now (by simp))
theorem oC {c : List Int} {at0 sd0 : Int} (e0 : Ev (fun k => bM.f k c) (c, at0, sd0)) (h0 : Src c at0 sd0) : EvP (fun k => dQ.f k c) (fun r => r.2.2.2.2.length ≤ 100) := by
 obtain ⟨⟨a, b, F, B, H, t, a1, s1⟩, d1, d2⟩ := pU h0
 obtain ⟨d2, f0, f1, f2, f3, f4⟩ := d2
 simp only at d2 f0 f1 f2 f3 f4
 unfold dQ.f
 refine EvP.bind e0 (EvP.bind d1 ?_)
 by_cases hq : wrap64 (a * b) > 16
 ·obtain ⟨r, a3, s3, e3, _, r0, r1⟩ := jF d2 4 (by omega)
  have r2 := r1 (by omega)
  have hz : (iJ ByteArray.empty ([(⟨#[76, 84, 76]⟩ : ByteArray), (⟨#[76, 76, 84]⟩ : ByteArray), (⟨#[84, 76, 76]⟩ : ByteArray), (⟨#[82, 66, 82]⟩ : ByteArray)] : List ByteArray) r).size ≤ 1048576 := by
   have : r = 0 ∨ r = 1 ∨ r = 2 ∨ r = 3 := by omega
   rcases this with rfl | rfl | rfl | rfl <;> decide
  obtain ⟨⟨a', b', F', B', H', e⟩, i1, i2⟩ := rW 4 2 _ hz
  refine EvP.jk hq (EvP.bind (Ev.now _) (EvP.bind (Ev.eq e3) (EvP.jk r0 (EvP.jk r2 (EvP.bind i1 (EvP.now ?_))))))
  show H'.length ≤ 100
  have i3 : H'.length ≤ 64 := i2
  omega
 ·exact EvP.mr hq (EvP.now f3)
theorem vk (l : List Int) (hl : l.length ≤ 35184372088832) : Ev (fun k => dh.f k l l) true := by
 have loop : ∀ (d i : Nat), i + d = l.length → Ev (fun k => dh.l0 k l l (i : Int)) true := by
  intro d
  induction d with
  | zero =>
   intro i hi
   refine Ev.step (f := fun _ => some true) (fun k => by rw [dh.l0, if_neg (by omega)]) (Ev.now _)
  | succ d ih =>
   intro i hi
   refine Ev.step (f := fun k => dh.l0 k l l ((i + 1 : Nat) : Int)) (fun k => by rw [dh.l0, if_pos (by omega), if_pos (by omega), if_pos (by omega), if_pos rfl, jH i (by omega)]) ?_
   exact ih (i + 1) (by omega)
 refine Ev.congr (f := fun k => dh.l0 k l l ((0 : Nat) : Int)) (fun k => ?_) (loop l.length 0 (by omega))
 simp only [dh.f, if_true]
 rfl
theorem uw (l : List ByteArray) (hl : l.length ≤ 35184372088832) : Ev (fun k => bP.f k l l) true := by
 have loop : ∀ (d i : Nat), i + d = l.length → Ev (fun k => bP.l0 k l l (i : Int)) true := by
  intro d
  induction d with
  | zero =>
   intro i hi
   refine Ev.step (f := fun _ => some true) (fun k => by rw [bP.l0, if_neg (by omega)]) (Ev.now _)
  | succ d ih =>
   intro i hi
   refine Ev.step (f := fun k => bP.l0 k l l ((i + 1 : Nat) : Int)) (fun k => by rw [bP.l0, if_pos (by omega), if_pos (by omega), if_pos (by omega), if_pos rfl, jH i (by omega)]) ?_
   exact ih (i + 1) (by omega)
 refine Ev.congr (f := fun k => bP.l0 k l l ((0 : Nat) : Int)) (fun k => ?_) (loop l.length 0 (by omega))
 simp only [bP.f, if_true]
 rfl
theorem pm (l : List Int) (x : Int) (hl : l.length ≤ 35184372088832) : Ev (fun k => cu.f k l x) (decide (x ∈ l)) := by
 have loop : ∀ (d i : Nat), i + d = l.length → Ev (fun k => cu.l0 k l x (i : Int)) (decide (x ∈ l.drop i)) := by
  intro d
  induction d with
  | zero =>
   intro i hi
   have e : decide (x ∈ l.drop i) = false := by rw [List.drop_of_length_le (by omega)]; simp
   rw [e]
   exact Ev.step (f := fun _ => some false) (fun k => by rw [cu.l0, if_neg (by omega)]) (Ev.now _)
  | succ d ih =>
   intro i hi
   by_cases e : rd l (i : Int) = x
   ·have e1 : decide (x ∈ l.drop i) = true := by rw [lv (by omega)]; simp [e]
    rw [e1]
    exact Ev.step (f := fun _ => some true) (fun k => by rw [cu.l0, if_pos (by omega), if_pos (by omega), if_pos e]) (Ev.now _)
   ·have e1 : decide (x ∈ l.drop i) = decide (x ∈ l.drop (i + 1)) := by rw [lv (by omega)]; simp [Ne.symm e]
    rw [e1]
    exact Ev.step (fun k => by rw [cu.l0, if_pos (by omega), if_pos (by omega), if_neg e, jH i (by omega)]) (ih (i + 1) (by omega))
 have := loop l.length 0 (by omega)
 rw [List.drop_zero] at this
 exact Ev.congr (fun k => rfl) this
theorem wh {a b : Int} {F B H : List Int} (h : jS a b F B H) : 0 < F.length ∧ F.length ≤ 64 ∧ B.length = F.length ∧ H.length = F.length := by
 obtain ⟨i, j, i1, j1, _, _, hF, hB, hH, _⟩ := h
 have h64 : 2 ^ (i + j) ≤ 64 := Nat.le_trans (Nat.pow_le_pow_right (by omega) (show i + j ≤ 6 by omega)) (by decide)
 have hpos : 0 < 2 ^ (i + j) := Nat.pow_pos (by omega)
 exact ⟨by omega, by omega, by omega, by omega⟩
theorem ug {a b : Int} {F B H : List Int} {s : ByteArray} (hf : jS a b F B H) (hs : kK a b s) : Ev (fun k => dU.f k a b F B H s) 0 := by
 obtain ⟨_, h64, _, hH⟩ := wh hf
 obtain ⟨v, _, v2, v3⟩ := nX a b F B H (by omega)
 rw [v3.2 hf] at v2
 unfold dU.f
 exact Ev.bind v2 (bC rfl (Ev.bind (uW hs) (bC rfl (Ev.now _))))
theorem uE {a b : Int} {F B H : List Int} {s : ByteArray} (hf : jS a b F B H) (hs : kK a b s) (hr : Ev (fun k => bL.f k a b F B H s) true) : Ev (fun k => dK.f k a b F B H s) (true, 0) := by
 unfold dK.f
 exact Ev.bind (ug hf hs) (bC rfl (Ev.bind hr (Ev.now _)))
theorem FnReadForms : ag.Pure := by
 intro l0 _ _ hw
 apply Ev.rounds
 unfold ag.f kH.f
 refine Ev.bind (Ev.now _) ?_
 by_cases hb : (l0.length : Int) > 4096
 ·exact bC (decide_eq_true hb) (Ev.now _)
 refine dW (by simpa using hb) ?_
 obtain ⟨at0, sd0, e0, h0⟩ := zK l0 (by omega) (fun x hx => wf8 (hw x hx))
 obtain ⟨⟨a, b, F, B, H, t⟩, d1, f1, f2, f3, f4⟩ := uS e0 h0
 obtain ⟨⟨c, d, F', B', H'⟩, d2, g3⟩ := oC e0 h0
 simp only at f1 f2 f3 f4 g3
 obtain ⟨⟨x, e⟩, r1, r2, r3, r4⟩ := rZ a b F B H t (by omega) (by omega)
 obtain ⟨⟨u, e2⟩, s1, s2⟩ := ql a b F B H t (by omega) (by omega)
 obtain ⟨⟨q, e3⟩, q1, q2, q3, q4, q5⟩ := ru c d F' B' H' (by omega)
 have x3 : x.length ≤ 1000 := r3
 have q3' : q.length ≤ 4096 := q3
 refine Ev.bind d1 (Ev.bind r2 (Ev.bind r1 (Ev.bind s2 (Ev.bind s1 (Ev.bind d2 (Ev.bind q2 (Ev.bind q1 (bC rfl (Ev.bind (vk x (by omega)) (bC rfl (bC rfl (dW (by simp) (bC rfl (Ev.bind (uw q (by omega)) ?_))))))))))))))
 refine Ev.step (fun k => by rw [ag.j0, if_neg (by simp)]) ?_
 have pages : e = 0 → Ev (fun k => ag.l1 k x (F ++ B) 0) true := by
  intro he
  obtain ⟨n1, n2, n3, n4, n5⟩ := r4 he
  have n1' : x.length = (F ++ B).length := n1
  have hlen : (F ++ B).length ≤ 128 := by rw [List.length_append]; omega
  have loop : ∀ (d i : Nat), i + d = x.length → Ev (fun k => ag.l1 k x (F ++ B) (i : Int)) true := by
   intro d
   induction d with
   | zero =>
    intro i hi
    exact Ev.step (f := fun _ => some true) (fun k => by rw [ag.l1, if_neg (by omega)]; simp [n1']) (Ev.now _)
   | succ d ih =>
    intro i hi
    have hil : i < x.length := by omega
    have g0 : (i : Int) < (x.length : Int) := by omega
    have g1 : 0 ≤ (i : Int) := by omega
    have g2 : (i : Int) ≤ (x.length : Int) := by omega
    have i1 : i + 1 + d = x.length := by omega
    have b1 : (x.take i).length ≤ 35184372088832 := by rw [List.length_take]; omega
    have b2 : (F ++ B).length ≤ 35184372088832 := by omega
    have hg := iP hil
    have hw := jH i (by omega)
    obtain ⟨y1, y2, y3⟩ := n5 x[i] (List.getElem_mem hil)
    obtain ⟨m1, m2, m3⟩ := CG y2 y3
    have p1 := pm (F ++ B) (pg x[i]) b2
    have p2 := pm (x.take i) x[i] b1
    have p3 := pm (x.take i) (-x[i]) b1
    rw [decide_eq_true y1] at p1
    rw [decide_eq_false (vD n4 hil x[i] rfl)] at p2
    rw [decide_eq_false (vD n4 hil (-x[i]) m3)] at p3
    refine Ev.step (f := fun k => (cu.f k (F ++ B) (pg x[i])).bind fun t1 => if t1 = true then ((cu.f k (x.take i) x[i]).bind fun t2 => if t2 = true then none else ((cu.f k (x.take i) (-x[i])).bind fun t3 => if t3 = true then none else ag.l1 k x (F ++ B) ((i + 1 : Nat) : Int))) else none) (fun k => ?_) (Ev.bind p1 (bC rfl (Ev.bind p2 (dW (by simp) (Ev.bind p3 (dW (by simp) (ih (i + 1) i1)))))))
    rw [ag.l1, if_pos g0, if_pos g1, hg, m1, m2, if_pos g2, Int.toNat_natCast, hw]
  exact loop x.length 0 (by omega)
 have loop : ∀ (n i : Nat), i + n = q.length → Ev (fun k => ag.l0 k x e q (i : Int) a b F B H c d F' B' H') true := by
  intro n
  induction n with
  | zero =>
   intro i hi
   by_cases he : e = 0
   ·refine Ev.step (f := fun k => ag.l1 k x (F ++ B) 0) (fun k => ?_) (pages he)
    rw [ag.l0, if_neg (by omega), if_pos he]
    simp only [Option.bind_some, List.nil_append, List.length_nil]
    rw [if_pos (by omega), if_pos (by omega)]
   ·exact Ev.step (f := fun _ => some true) (fun k => by rw [ag.l0, if_neg (by omega), if_neg he]) (Ev.now _)
  | succ n ih =>
   intro i hi
   have hil : i < q.length := by omega
   have i1 : i + 1 + n = q.length := by omega
   have g0 : (i : Int) < (q.length : Int) := by omega
   have g1 : 0 ≤ (i : Int) := by omega
   have hg := uC hil
   have hw := jH i (by omega)
   have hmem : q[i] ∈ q := List.getElem_mem hil
   obtain ⟨z1, z2⟩ := q5 q[i] hmem
   have hok : jS c d F' B' H' := by
    rcases q4 with z | z
    ·have z' : q = [] := z
     rw [z'] at hil
     simp at hil
    ·exact z
   have hr := uE hok z1 z2
   refine Ev.step (f := fun k => (dK.f k c d F' B' H' q[i]).bind fun bt => if bt.2 = 0 then (if bt.1 = true then ag.l0 k x e q ((i + 1 : Nat) : Int) a b F B H c d F' B' H' else none) else none) (fun k => ?_) (Ev.bind hr (bC rfl (bC rfl (ih (i + 1) i1))))
   rw [ag.l0, if_pos g0, if_pos g1, hg, hw]
 exact loop q.length 0 (by omega)
end Go.Proofs.YtkpidjmhdagkfaaGreatDoor.Pure
-- halved
