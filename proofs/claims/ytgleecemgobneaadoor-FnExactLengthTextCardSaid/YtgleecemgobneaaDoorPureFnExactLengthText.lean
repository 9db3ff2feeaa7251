/- The pure statement of FnExactLengthText: for every input that the row lets in, the law's Lean function answers true; no further condition. -/
import Derived.Test.YtgleecemgobneaaDoorQFnExactLengthTextx1
set_option linter.unusedVariables false
set_option linter.unusedSimpArgs false
namespace Go.Proofs.YtgleecemgobneaaDoor.Pure
open Go.RowKit Go.Proofs.YtgleecemgobneaaDoor.QFnExactLengthText Go.Proofs.YtgleecemgobneaaDoorW.PrintWords Go.Proofs.YtgleecemgobneaaDoorW.PrintLast

theorem w64 {x : Int} (h0 : -9223372036854775808 ≤ x) (h1 : x ≤ 9223372036854775807) : wrap64 x = x := by unfold wrap64; omega
theorem wz : wrap64 0 = 0 := w64 (by omega) (by omega)
theorem w64_range (x : Int) : -9223372036854775808 ≤ wrap64 x ∧ wrap64 x ≤ 9223372036854775807 := by unfold wrap64; omega
theorem wf64 {x : Int} (h : (Lit.int .i64 x).wf = true) : -9223372036854775808 ≤ x ∧ x ≤ 9223372036854775807 := by
  have h' : (decide (IntKind.i64.min ≤ x) && decide (x ≤ IntKind.i64.max)) = true := h
  simp only [Bool.and_eq_true, decide_eq_true_eq] at h'
  exact h'
theorem wf8 {x : Int} (h : (Lit.int .u8 x).wf = true) : 0 ≤ x ∧ x ≤ 255 := by
  have h' : (decide (IntKind.u8.min ≤ x) && decide (x ≤ IntKind.u8.max)) = true := h
  simp only [Bool.and_eq_true, decide_eq_true_eq] at h'
  exact h'
theorem rd_get {xs : List Int} {i : Nat} (h : i < xs.length) : rd xs (i : Int) = xs[i] := by
  simp [rd, List.getD_eq_getElem?_getD, h]
theorem rd_nat (xs : List Int) (i : Nat) : rd xs (i : Int) = xs.getD i 0 := by simp [rd]
theorem rd_mem {xs : List Int} {i : Nat} (h : i < xs.length) : rd xs (i : Int) ∈ xs := by rw [rd_get h]; exact List.getElem_mem h
theorem rd_ext {xs ys : List Int} (hl : xs.length = ys.length) (h : ∀ i : Nat, i < xs.length → rd xs (i : Int) = rd ys (i : Int)) : xs = ys := by
  apply List.ext_getElem hl
  intro i h1 h2
  have := h i h1
  rwa [rd_get h1, rd_get h2] at this
theorem rd_set {xs : List Int} {i j : Nat} {v : Int} (hi : i < xs.length) : rd (xs.set i v) (j : Int) = if i = j then v else rd xs (j : Int) := by
  simp only [rd_nat, List.getD_eq_getElem?_getD, List.getElem?_set]
  by_cases h : i = j
  · subst h; simp [hi]
  · simp [h]
theorem rd_append_left {xs ys : List Int} {j : Nat} (h : j < xs.length) : rd (xs ++ ys) (j : Int) = rd xs (j : Int) := by
  simp only [rd_nat, List.getD_eq_getElem?_getD, List.getElem?_append_left h]
theorem rd_append_at {xs : List Int} {v : Int} : rd (xs ++ [v]) (xs.length : Int) = v := by
  simp [rd_nat, List.getD_eq_getElem?_getD]
theorem rd_take {xs : List Int} {i j : Nat} (h : j < i) : rd (xs.take i) (j : Int) = rd xs (j : Int) := by
  simp [rd_nat, List.getD_eq_getElem?_getD, List.getElem?_take, h]
theorem rd_drop {xs : List Int} {i j : Nat} : rd (xs.drop i) (j : Int) = rd xs ((i + j : Nat) : Int) := by
  simp only [rd_nat, List.getD_eq_getElem?_getD, List.getElem?_drop]
theorem toNat_cast (i : Nat) : ((i : Nat) : Int).toNat = i := Int.toNat_natCast i
theorem drop_cons {xs : List Int} {i : Nat} (h : i < xs.length) : xs.drop i = rd xs (i : Int) :: xs.drop (i + 1) := by
  rw [rd_get h]; exact List.drop_eq_getElem_cons h
theorem Ev_ite_t {α : Type} {c : Prop} [Decidable c] {f g : Nat → Option α} {r : α} (h : c) (k : Ev f r) : Ev (fun n => if c then f n else g n) r :=
  Ev.congr (fun _ => if_pos h) k
theorem Ev_ite_f {α : Type} {c : Prop} [Decidable c] {f g : Nat → Option α} {r : α} (h : ¬ c) (k : Ev g r) : Ev (fun n => if c then f n else g n) r :=
  Ev.congr (fun _ => if_neg h) k
theorem w64n (i : Nat) (h : i < 9223372036854775807) : wrap64 ((i : Int) + 1) = ((i + 1 : Nat) : Int) := by
  rw [w64 (by omega) (by omega)]; rfl
theorem wrap_add_wrap (a b : Int) : wrap64 (wrap64 a + b) = wrap64 (a + b) := by unfold wrap64; omega
theorem wrap_add_wrap' (a b : Int) : wrap64 (a + wrap64 b) = wrap64 (a + b) := by unfold wrap64; omega
theorem EvE_bind {α β : Type} {g : Nat → Option α} {f : Nat → α → Option β} {a : α} (h : Ev g a) (k : ∃ r, Ev (fun n => f n a) r) : ∃ r, Ev (fun n => (g n).bind (f n)) r := by
  obtain ⟨r, k⟩ := k
  exact ⟨r, Ev.bind h k⟩
theorem EvE_now {α : Type} (a : α) : ∃ r, Ev (fun _ : Nat => some a) r := ⟨a, Ev.now a⟩
theorem EvE_ite_t {α : Type} {c : Prop} [Decidable c] {f g : Nat → Option α} (h : c) (k : ∃ r, Ev f r) : ∃ r, Ev (fun n => if c then f n else g n) r := by
  obtain ⟨r, k⟩ := k
  exact ⟨r, Ev_ite_t h k⟩
theorem EvE_ite_f {α : Type} {c : Prop} [Decidable c] {f g : Nat → Option α} (h : ¬ c) (k : ∃ r, Ev g r) : ∃ r, Ev (fun n => if c then f n else g n) r := by
  obtain ⟨r, k⟩ := k
  exact ⟨r, Ev_ite_f h k⟩
theorem l01In_eq (n a b : Int) : spec_l01In.f n a b = some (decide (a ≤ n ∧ n ≤ b)) := by
  unfold spec_l01In.f
  by_cases h : n ≥ a
  · rw [if_pos h]; simp [show a ≤ n from h]
  · rw [if_neg h]; simp [show ¬ a ≤ n from h]
theorem inRange_eq (n a b : Int) : impl_inRange.f n a b = some (decide (a ≤ n ∧ n ≤ b)) := by
  unfold impl_inRange.f
  by_cases h : a ≤ n
  · rw [if_pos h]; simp [h]
  · rw [if_neg h]; simp [h]
def mkb (l : List UInt8) : ByteArray := ⟨l.toArray⟩
theorem mkb_list (l : List UInt8) : (mkb l).toList = l := by rw [ByteArray.toList_eq]; rfl
theorem mkb_size (l : List UInt8) : (mkb l).size = l.length := by show l.toArray.size = _; exact List.size_toArray
theorem mkb_append (a b : List UInt8) : mkb a ++ mkb b = mkb (a ++ b) := by
  apply ByteArray.ext
  rw [ByteArray.data_append]
  show a.toArray ++ b.toArray = (a ++ b).toArray
  simp
theorem mkb_of (s : ByteArray) : s = mkb s.data.toList := by
  apply ByteArray.ext
  show s.data = s.data.toList.toArray
  simp
def dgs (n : Nat) : List UInt8 := Go.Lib.decDigits n
theorem dgs_one {n : Nat} (h : n < 10) : dgs n = [UInt8.ofNat (48 + n)] := Go.Lib.decDigits_one h
theorem dgs_more {n : Nat} (h : ¬ n < 10) : dgs n = dgs (n / 10) ++ [UInt8.ofNat (48 + n % 10)] := by
  unfold dgs
  rw [Go.Lib.decDigits, dif_neg h]
theorem dgs_len (n : Nat) : 1 ≤ (dgs n).length ∧ (dgs n).length ≤ n + 1 := by
  induction n using Nat.strongRecOn with
  | ind n ih =>
    by_cases h : n < 10
    · rw [dgs_one h]; simp
    · rw [dgs_more h, List.length_append]
      have := ih (n / 10) (by omega)
      simp only [List.length_singleton]
      omega
theorem str_dig : ∀ d : Fin 10, (strOfNums [(wrap64 (48 + (d.val : Int))) % 256]).data.toList = [UInt8.ofNat (48 + d.val)] := by decide +kernel
theorem str_dig' (d : Nat) (h : d < 10) : strOfNums [(wrap64 (48 + (d : Int))) % 256] = mkb [UInt8.ofNat (48 + d)] := by
  have := str_dig ⟨d, h⟩
  rw [mkb_of (strOfNums [(wrap64 (48 + (d : Int))) % 256])]
  exact congrArg mkb this
theorem dec_ev (n : Nat) : n ≤ 9223372036854775807 → Ev (fun k => spec_l01Dec.f k (n : Int)) (mkb (dgs n)) := by
  induction n using Nat.strongRecOn with
  | ind n ih =>
    intro hn
    by_cases h : n < 10
    · refine Ev.step (f := fun _ => some (mkb (dgs n))) (fun k => ?_) (Ev.now _)
      rw [spec_l01Dec.f, if_pos (by omega), dgs_one h, str_dig' n h]
    · rw [dgs_more h]
      have e1 : wrap64 (Int.tdiv (n : Int) 10) = ((n / 10 : Nat) : Int) := by rw [Int.tdiv_eq_ediv_of_nonneg (by omega), w64 (by omega) (by omega)]; omega
      have e2 : Int.tmod (n : Int) 10 = ((n % 10 : Nat) : Int) := by rw [Int.tmod_eq_emod_of_nonneg (by omega)]; omega
      have hl := dgs_len (n / 10)
      refine Ev.step (f := fun k => (spec_l01Dec.f k ((n / 10 : Nat) : Int)).bind fun t => if t.size + (mkb [UInt8.ofNat (48 + n % 10)]).size ≤ 9223372036854775807 then some (t ++ mkb [UInt8.ofNat (48 + n % 10)]) else none) (fun k => ?_) ?_
      · rw [spec_l01Dec.f, if_neg (by omega), e1, e2]
        simp only [Option.bind_some]
        rw [str_dig' (n % 10) (by omega)]
      · refine Ev.bind (ih (n / 10) (by omega) (by omega)) ?_
        refine Ev_ite_t (by rw [mkb_size, mkb_size]; simp only [List.length_singleton]; omega) ?_
        rw [mkb_append]
        exact Ev.now _
theorem impl_dec (n : Nat) (hn : n ≤ 9223372036854775807) : impl_decimal.f (n : Int) = some (mkb (dgs n)) := by
  unfold impl_decimal.f
  rw [if_pos (by omega)]
  show some (mkb (Go.Lib.itoa (n : Int))) = _
  rw [Go.Lib.itoa_nonneg]
  rfl
def ltOf (n : Int) : ByteArray := if 0 ≤ n ∧ n ≤ 1000000000 then (mkb (dgs (n / 10).toNat) ++ (⟨#[46]⟩ : ByteArray)) ++ mkb (dgs (n % 10).toNat) else (⟨#[]⟩ : ByteArray)
theorem dgs_small (n : Nat) (h : n ≤ 1000000000) : (mkb (dgs n)).size ≤ 1000000001 := by
  rw [mkb_size]
  have := dgs_len n
  omega
theorem specLT_ev (n : Int) : Ev (fun k => spec_LengthText.f k n) (ltOf n) := by
  unfold spec_LengthText.f ltOf
  simp only [l01In_eq, Option.bind_some, decide_eq_true_eq]
  by_cases h : 0 ≤ n ∧ n ≤ 1000000000
  · rw [if_pos h]
    refine Ev_ite_t h ?_
    have e1 : wrap64 (Int.tdiv n 10) = (((n / 10).toNat : Nat) : Int) := by rw [Int.tdiv_eq_ediv_of_nonneg h.1, w64 (by omega) (by omega)]; omega
    have e2 : Int.tmod n 10 = (((n % 10).toNat : Nat) : Int) := by rw [Int.tmod_eq_emod_of_nonneg h.1]; omega
    rw [e1, e2]
    have s1 := dgs_small (n / 10).toNat (by omega)
    have s2 := dgs_small (n % 10).toNat (by omega)
    refine Ev.bind (dec_ev _ (by omega)) (Ev_ite_t (by omega) (Ev.bind (dec_ev _ (by omega)) (Ev_ite_t ?_ (Ev.now _))))
    rw [ByteArray.size_append]
    show (mkb (dgs (n / 10).toNat)).size + 1 + _ ≤ _
    omega
  · rw [if_neg h]; exact Ev_ite_f h (Ev.now _)
theorem implLT_eq (n : Int) : impl_LengthText.f n = some (ltOf n) := by
  unfold impl_LengthText.f ltOf impl_isLength.f
  simp only [inRange_eq, Option.bind_some, decide_eq_true_eq]
  by_cases h : 0 ≤ n ∧ n ≤ 1000000000
  · rw [if_pos h, if_pos h]
    have e1 : wrap64 (Int.tdiv n 10) = (((n / 10).toNat : Nat) : Int) := by rw [Int.tdiv_eq_ediv_of_nonneg h.1, w64 (by omega) (by omega)]; omega
    have e2 : Int.tmod n 10 = (((n % 10).toNat : Nat) : Int) := by rw [Int.tmod_eq_emod_of_nonneg h.1]; omega
    have s1 := dgs_small (n / 10).toNat (by omega)
    have s2 := dgs_small (n % 10).toNat (by omega)
    rw [e1, e2, impl_dec _ (by omega)]
    simp only [Option.bind_some]
    rw [if_pos (by omega), impl_dec _ (by omega)]
    simp only [Option.bind_some]
    rw [if_pos]
    rw [ByteArray.size_append]
    show (mkb (dgs (n / 10).toNat)).size + 1 + _ ≤ _
    omega
  · rw [if_neg h, if_neg h]
theorem FnExactLengthText : laws_FnExactLengthText.Pure := by
  intro n hn
  apply Ev.rounds
  unfold laws_FnExactLengthText.f
  refine Ev.bind (specLT_ev n) ?_
  rw [implLT_eq]
  show Ev (fun k => if (ltOf n).toList = (ltOf n).toList then some true else none) true
  exact Ev_ite_t rfl (Ev.now _)

end Go.Proofs.YtgleecemgobneaaDoor.Pure
