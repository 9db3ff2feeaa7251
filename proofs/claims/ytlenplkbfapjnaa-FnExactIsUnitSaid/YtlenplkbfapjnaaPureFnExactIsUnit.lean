/- The pure statement of FnExactIsUnit: for every input that the row lets in, the law's Lean function answers true; no further condition. -/
import Derived.Test.YtlenplkbfapjnaaPFnExactIsUnitx1
set_option linter.unusedVariables false
set_option linter.unusedSimpArgs false
namespace Go.Proofs.Ytlenplkbfapjnaa.Pure
open Go.RowKit Go.Proofs.Ytlenplkbfapjnaa.PFnExactIsUnit Go.Proofs.YtlenplkbfapjnaaW.PrintWords Go.Proofs.YtlenplkbfapjnaaW.PrintLast

theorem w64 {x : Int} (h0 : -9223372036854775808 ≤ x) (h1 : x ≤ 9223372036854775807) : wrap64 x = x := by unfold wrap64; omega
theorem w64_range (x : Int) : -9223372036854775808 ≤ wrap64 x ∧ wrap64 x ≤ 9223372036854775807 := by unfold wrap64; omega
theorem wf64 {x : Int} (h : (Lit.int .i64 x).wf = true) : -9223372036854775808 ≤ x ∧ x ≤ 9223372036854775807 := by
  have h' : (decide (IntKind.i64.min ≤ x) && decide (x ≤ IntKind.i64.max)) = true := h
  simp only [Bool.and_eq_true, decide_eq_true_eq] at h'
  exact h'
theorem wf8 {x : Int} (h : (Lit.int .u8 x).wf = true) : 0 ≤ x ∧ x ≤ 255 := by
  have h' : (decide (IntKind.u8.min ≤ x) && decide (x ≤ IntKind.u8.max)) = true := h
  simp only [Bool.and_eq_true, decide_eq_true_eq] at h'
  exact h'
theorem rd_get {xs : List Int} {i : Nat} (h : i < xs.length) : rd xs (i : Int) = xs[i] := by
  simp [rd, List.getD_eq_getElem?_getD, h]
theorem rd_nat (xs : List Int) (i : Nat) : rd xs (i : Int) = xs.getD i 0 := by simp [rd]
theorem rd_mem {xs : List Int} {i : Nat} (h : i < xs.length) : rd xs (i : Int) ∈ xs := by rw [rd_get h]; exact List.getElem_mem h
theorem rd_ext {xs ys : List Int} (hl : xs.length = ys.length) (h : ∀ i : Nat, i < xs.length → rd xs (i : Int) = rd ys (i : Int)) : xs = ys := by
  apply List.ext_getElem hl
  intro i h1 h2
  have := h i h1
  rwa [rd_get h1, rd_get h2] at this
theorem rd_set {xs : List Int} {i j : Nat} {v : Int} (hi : i < xs.length) : rd (xs.set i v) (j : Int) = if i = j then v else rd xs (j : Int) := by
  simp only [rd_nat, List.getD_eq_getElem?_getD, List.getElem?_set]
  by_cases h : i = j
  · subst h; simp [hi]
  · simp [h]
theorem rd_append_left {xs ys : List Int} {j : Nat} (h : j < xs.length) : rd (xs ++ ys) (j : Int) = rd xs (j : Int) := by
  simp only [rd_nat, List.getD_eq_getElem?_getD, List.getElem?_append_left h]
theorem rd_append_at {xs : List Int} {v : Int} : rd (xs ++ [v]) (xs.length : Int) = v := by
  simp [rd_nat, List.getD_eq_getElem?_getD]
theorem rd_take {xs : List Int} {i j : Nat} (h : j < i) : rd (xs.take i) (j : Int) = rd xs (j : Int) := by
  simp [rd_nat, List.getD_eq_getElem?_getD, List.getElem?_take, h]
theorem rd_drop {xs : List Int} {i j : Nat} : rd (xs.drop i) (j : Int) = rd xs ((i + j : Nat) : Int) := by
  simp only [rd_nat, List.getD_eq_getElem?_getD, List.getElem?_drop]
theorem toNat_cast (i : Nat) : ((i : Nat) : Int).toNat = i := Int.toNat_natCast i
theorem drop_cons {xs : List Int} {i : Nat} (h : i < xs.length) : xs.drop i = rd xs (i : Int) :: xs.drop (i + 1) := by
  rw [rd_get h]; exact List.drop_eq_getElem_cons h
theorem Ev_ite_t {α : Type} {c : Prop} [Decidable c] {f g : Nat → Option α} {r : α} (h : c) (k : Ev f r) : Ev (fun n => if c then f n else g n) r :=
  Ev.congr (fun _ => if_pos h) k
theorem Ev_ite_f {α : Type} {c : Prop} [Decidable c] {f g : Nat → Option α} {r : α} (h : ¬ c) (k : Ev g r) : Ev (fun n => if c then f n else g n) r :=
  Ev.congr (fun _ => if_neg h) k
theorem w64n (i : Nat) (h : i < 9223372036854775807) : wrap64 ((i : Int) + 1) = ((i + 1 : Nat) : Int) := by
  rw [w64 (by omega) (by omega)]; rfl
theorem wrap_add_wrap (a b : Int) : wrap64 (wrap64 a + b) = wrap64 (a + b) := by unfold wrap64; omega
theorem wrap_add_wrap' (a b : Int) : wrap64 (a + wrap64 b) = wrap64 (a + b) := by unfold wrap64; omega
theorem l01Has_ev (l : List Int) (x : Int) (hl : l.length ≤ 35184372088832) : Ev (fun k => spec_l01Has.f k l x) (decide (x ∈ l)) := by
  have loop : ∀ (d i : Nat), i + d = l.length → Ev (fun k => spec_l01Has.l0 k l x (i : Int)) (decide (x ∈ l.drop i)) := by
    intro d
    induction d with
    | zero =>
      intro i hi
      have e : decide (x ∈ l.drop i) = false := by rw [List.drop_of_length_le (by omega)]; simp
      rw [e]
      exact Ev.step (f := fun _ => some false) (fun k => by rw [spec_l01Has.l0, if_neg (by omega)]) (Ev.now _)
    | succ d ih =>
      intro i hi
      by_cases e : rd l (i : Int) = x
      · have e1 : decide (x ∈ l.drop i) = true := by rw [drop_cons (by omega)]; simp [e]
        rw [e1]
        exact Ev.step (f := fun _ => some true) (fun k => by rw [spec_l01Has.l0, if_pos (by omega), if_pos (by omega), if_pos e]) (Ev.now _)
      · have e1 : decide (x ∈ l.drop i) = decide (x ∈ l.drop (i + 1)) := by rw [drop_cons (by omega)]; simp [Ne.symm e]
        rw [e1]
        exact Ev.step (fun k => by rw [spec_l01Has.l0, if_pos (by omega), if_pos (by omega), if_neg e, w64n i (by omega)]) (ih (i + 1) (by omega))
  have := loop l.length 0 (by omega)
  rw [List.drop_zero] at this
  exact Ev.congr (fun k => rfl) this
theorem inRange_eq (n a b : Int) : impl_inRange.f n a b = some (decide (a ≤ n ∧ n ≤ b)) := by
  unfold impl_inRange.f
  by_cases h : a ≤ n
  · rw [if_pos h]; simp [h]
  · rw [if_neg h]; simp [h]
theorem unit_fin : ∀ n : Fin 129, 4 ≤ n.val → ((Go.bits .and .i64 (n.val : Int) (wrap64 ((n.val : Int) - 1)) == 0) = decide ((n.val : Int) ∈ ([4, 8, 16, 32, 64, 128] : List Int))) := by decide +kernel
theorem FnExactIsUnit : laws_FnExactIsUnit.Pure := by
  intro a hw
  apply Ev.rounds
  unfold laws_FnExactIsUnit.f spec_IsUnit.f impl_IsUnit.f
  refine Ev.bind (a := decide (a ∈ ([4, 8, 16, 32, 64, 128] : List Int))) (Ev.bind (l01Has_ev _ a (by simp)) (Ev.now _)) ?_
  rw [inRange_eq]
  by_cases h : 4 ≤ a ∧ a ≤ 128
  · obtain ⟨m, rfl⟩ := Int.eq_ofNat_of_zero_le (show 0 ≤ a by omega)
    have := unit_fin ⟨m, by omega⟩ (by simp; omega)
    simp only at this
    simp only [Option.bind_some]
    rw [decide_eq_true h, if_pos rfl]
    simp only [Option.bind_some]
    rw [this]
    exact Ev_ite_f (by simp) (Ev.now _)
  · simp only [Option.bind_some]
    rw [decide_eq_false h, if_neg (by simp)]
    simp only [Option.bind_some]
    have : decide (a ∈ ([4, 8, 16, 32, 64, 128] : List Int)) = false := by
      rw [decide_eq_false_iff_not]
      simp only [List.mem_cons, List.not_mem_nil, or_false]
      omega
    rw [this]
    exact Ev_ite_f (by simp) (Ev.now _)

end Go.Proofs.Ytlenplkbfapjnaa.Pure
