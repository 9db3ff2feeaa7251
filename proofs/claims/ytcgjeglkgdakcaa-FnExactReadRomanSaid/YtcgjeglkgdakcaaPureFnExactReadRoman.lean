/- The pure statement of FnExactReadRoman: for every input that the row lets in, the law's Lean function answers true; no further condition. -/
import Derived.Test.YtcgjeglkgdakcaaQFnExactReadRomanx1
set_option linter.unusedVariables false
set_option linter.unusedSimpArgs false
namespace Go.Proofs.Ytcgjeglkgdakcaa.Pure
open Go.RowKit Go.Proofs.Ytcgjeglkgdakcaa.QFnExactReadRoman Go.Proofs.YtcgjeglkgdakcaaW.PrintWords Go.Proofs.YtcgjeglkgdakcaaW.PrintLast

theorem w64 {x : Int} (h0 : -9223372036854775808 ≤ x) (h1 : x ≤ 9223372036854775807) : wrap64 x = x := by unfold wrap64; omega
theorem wz : wrap64 0 = 0 := w64 (by omega) (by omega)
theorem w64_range (x : Int) : -9223372036854775808 ≤ wrap64 x ∧ wrap64 x ≤ 9223372036854775807 := by unfold wrap64; omega
theorem wf64 {x : Int} (h : (Lit.int .i64 x).wf = true) : -9223372036854775808 ≤ x ∧ x ≤ 9223372036854775807 := by
  have h' : (decide (IntKind.i64.min ≤ x) && decide (x ≤ IntKind.i64.max)) = true := h
  simp only [Bool.and_eq_true, decide_eq_true_eq] at h'
  exact h'
theorem wf8 {x : Int} (h : (Lit.int .u8 x).wf = true) : 0 ≤ x ∧ x ≤ 255 := by
  have h' : (decide (IntKind.u8.min ≤ x) && decide (x ≤ IntKind.u8.max)) = true := h
  simp only [Bool.and_eq_true, decide_eq_true_eq] at h'
  exact h'
theorem rd_get {xs : List Int} {i : Nat} (h : i < xs.length) : rd xs (i : Int) = xs[i] := by
  simp [rd, List.getD_eq_getElem?_getD, h]
theorem rd_nat (xs : List Int) (i : Nat) : rd xs (i : Int) = xs.getD i 0 := by simp [rd]
theorem rd_mem {xs : List Int} {i : Nat} (h : i < xs.length) : rd xs (i : Int) ∈ xs := by rw [rd_get h]; exact List.getElem_mem h
theorem rd_ext {xs ys : List Int} (hl : xs.length = ys.length) (h : ∀ i : Nat, i < xs.length → rd xs (i : Int) = rd ys (i : Int)) : xs = ys := by
  apply List.ext_getElem hl
  intro i h1 h2
  have := h i h1
  rwa [rd_get h1, rd_get h2] at this
theorem rd_set {xs : List Int} {i j : Nat} {v : Int} (hi : i < xs.length) : rd (xs.set i v) (j : Int) = if i = j then v else rd xs (j : Int) := by
  simp only [rd_nat, List.getD_eq_getElem?_getD, List.getElem?_set]
  by_cases h : i = j
  · subst h; simp [hi]
  · simp [h]
theorem rd_append_left {xs ys : List Int} {j : Nat} (h : j < xs.length) : rd (xs ++ ys) (j : Int) = rd xs (j : Int) := by
  simp only [rd_nat, List.getD_eq_getElem?_getD, List.getElem?_append_left h]
theorem rd_append_at {xs : List Int} {v : Int} : rd (xs ++ [v]) (xs.length : Int) = v := by
  simp [rd_nat, List.getD_eq_getElem?_getD]
theorem rd_take {xs : List Int} {i j : Nat} (h : j < i) : rd (xs.take i) (j : Int) = rd xs (j : Int) := by
  simp [rd_nat, List.getD_eq_getElem?_getD, List.getElem?_take, h]
theorem rd_drop {xs : List Int} {i j : Nat} : rd (xs.drop i) (j : Int) = rd xs ((i + j : Nat) : Int) := by
  simp only [rd_nat, List.getD_eq_getElem?_getD, List.getElem?_drop]
theorem toNat_cast (i : Nat) : ((i : Nat) : Int).toNat = i := Int.toNat_natCast i
theorem drop_cons {xs : List Int} {i : Nat} (h : i < xs.length) : xs.drop i = rd xs (i : Int) :: xs.drop (i + 1) := by
  rw [rd_get h]; exact List.drop_eq_getElem_cons h
theorem Ev_ite_t {α : Type} {c : Prop} [Decidable c] {f g : Nat → Option α} {r : α} (h : c) (k : Ev f r) : Ev (fun n => if c then f n else g n) r :=
  Ev.congr (fun _ => if_pos h) k
theorem Ev_ite_f {α : Type} {c : Prop} [Decidable c] {f g : Nat → Option α} {r : α} (h : ¬ c) (k : Ev g r) : Ev (fun n => if c then f n else g n) r :=
  Ev.congr (fun _ => if_neg h) k
theorem w64n (i : Nat) (h : i < 9223372036854775807) : wrap64 ((i : Int) + 1) = ((i + 1 : Nat) : Int) := by
  rw [w64 (by omega) (by omega)]; rfl
theorem wrap_add_wrap (a b : Int) : wrap64 (wrap64 a + b) = wrap64 (a + b) := by unfold wrap64; omega
theorem wrap_add_wrap' (a b : Int) : wrap64 (a + wrap64 b) = wrap64 (a + b) := by unfold wrap64; omega
theorem l01In_eq (n a b : Int) : spec_l01In.f n a b = some (decide (a ≤ n ∧ n ≤ b)) := by
  unfold spec_l01In.f
  by_cases h : n ≥ a
  · rw [if_pos h]; simp [show a ≤ n from h]
  · rw [if_neg h]; simp [show ¬ a ≤ n from h]
def mkb (l : List UInt8) : ByteArray := ⟨l.toArray⟩
theorem mkb_list (l : List UInt8) : (mkb l).toList = l := by rw [ByteArray.toList_eq]; rfl
theorem mkb_size (l : List UInt8) : (mkb l).size = l.length := by show l.toArray.size = _; exact List.size_toArray
theorem mkb_append (a b : List UInt8) : mkb a ++ mkb b = mkb (a ++ b) := by
  apply ByteArray.ext
  rw [ByteArray.data_append]
  show a.toArray ++ b.toArray = (a ++ b).toArray
  simp
theorem mkb_of (s : ByteArray) : s = mkb s.data.toList := by
  apply ByteArray.ext
  show s.data = s.data.toList.toArray
  simp
def digL (o f t : List UInt8) : Nat → List UInt8
  | 0 => []
  | 1 => o
  | 2 => o ++ o
  | 3 => o ++ o ++ o
  | 4 => o ++ f
  | 5 => f
  | 6 => f ++ o
  | 7 => f ++ o ++ o
  | 8 => f ++ o ++ o ++ o
  | _ => o ++ t
theorem dig_m : ∀ d : Fin 10, (spec_l02Digit.f 6 (d.val : Int) (mkb [109]) (mkb []) (mkb [])).map (fun s => s.data.toList) = some (digL [109] [] [] d.val) := by decide +kernel
theorem dig_c : ∀ d : Fin 10, (spec_l02Digit.f 6 (d.val : Int) (mkb [99]) (mkb [100]) (mkb [109])).map (fun s => s.data.toList) = some (digL [99] [100] [109] d.val) := by decide +kernel
theorem dig_x : ∀ d : Fin 10, (spec_l02Digit.f 6 (d.val : Int) (mkb [120]) (mkb [108]) (mkb [99])).map (fun s => s.data.toList) = some (digL [120] [108] [99] d.val) := by decide +kernel
theorem dig_i : ∀ d : Fin 10, (spec_l02Digit.f 6 (d.val : Int) (mkb [105]) (mkb [118]) (mkb [120])).map (fun s => s.data.toList) = some (digL [105] [118] [120] d.val) := by decide +kernel
theorem of_map {x : Option ByteArray} {l : List UInt8} (h : x.map (fun s => s.data.toList) = some l) : x = some (mkb l) := by
  cases x with
  | none => simp at h
  | some s =>
    simp only [Option.map_some, Option.some.injEq] at h
    rw [← h, ← mkb_of]
theorem dig_ev {o f t : ByteArray} {d : Nat} {l : List UInt8} (h : (spec_l02Digit.f 6 (d : Int) o f t).map (fun s => s.data.toList) = some l) : Ev (fun k => spec_l02Digit.f k (d : Int) o f t) (mkb l) := Ev.of (spec_l02Digit.mono _ _ _ _) (of_map h)
theorem dig_len (o f t : List UInt8) (ho : o.length ≤ 1) (hf : f.length ≤ 1) (ht : t.length ≤ 1) (d : Nat) : (digL o f t d).length ≤ 4 := by
  match d with
  | 0 | 1 | 2 | 3 | 4 | 5 | 6 | 7 | 8 | n + 9 => simp [digL] <;> omega
theorem rom_all2 : ∀ a : Fin 40, ∀ b : Fin 100, romAll romTab ((100 * a.val + b.val : Nat) : Int) [] = ((digL [109] [] [] ((100 * a.val + b.val) / 1000) ++ digL [99] [100] [109] ((100 * a.val + b.val) / 100 % 10)) ++ digL [120] [108] [99] ((100 * a.val + b.val) / 10 % 10)) ++ digL [105] [118] [120] ((100 * a.val + b.val) % 10) := by decide +kernel
theorem rom_all (n : Nat) (h : n < 4000) : romAll romTab (n : Int) [] = ((digL [109] [] [] (n / 1000) ++ digL [99] [100] [109] (n / 100 % 10)) ++ digL [120] [108] [99] (n / 10 % 10)) ++ digL [105] [118] [120] (n % 10) := by
  have := rom_all2 ⟨n / 100, by omega⟩ ⟨n % 100, by omega⟩
  simp only [show 100 * (n / 100) + n % 100 = n by omega] at this
  exact this
def romV (n : Int) : ByteArray := if 1 ≤ n ∧ n ≤ 3999 then mkb (romAll romTab n []) else mkb []
theorem implRoman_eq (n : Int) : impl_RomanText.f n = some (romV n) := by
  unfold impl_RomanText.f romV
  split
  · rfl
  · rfl
theorem specRoman_ev (n : Int) : Ev (fun k => spec_RomanText.f k n) (romV n) := by
  unfold spec_RomanText.f romV
  simp only [l01In_eq, Option.bind_some, decide_eq_true_eq]
  by_cases h : 1 ≤ n ∧ n ≤ 3999
  · rw [if_pos h]
    refine Ev_ite_t h ?_
    obtain ⟨m, rfl⟩ := Int.eq_ofNat_of_zero_le (show 0 ≤ n by omega)
    have hm : m < 4000 := by omega
    have e1 : wrap64 (Int.tdiv (m : Int) 1000) = ((m / 1000 : Nat) : Int) := by rw [Int.tdiv_eq_ediv_of_nonneg (by omega), w64 (by omega) (by omega)]; omega
    have e2 : Int.tmod (wrap64 (Int.tdiv (m : Int) 100)) 10 = ((m / 100 % 10 : Nat) : Int) := by rw [Int.tdiv_eq_ediv_of_nonneg (by omega), w64 (by omega) (by omega), Int.tmod_eq_emod_of_nonneg (by omega)]; omega
    have e3 : Int.tmod (wrap64 (Int.tdiv (m : Int) 10)) 10 = ((m / 10 % 10 : Nat) : Int) := by rw [Int.tdiv_eq_ediv_of_nonneg (by omega), w64 (by omega) (by omega), Int.tmod_eq_emod_of_nonneg (by omega)]; omega
    have e4 : Int.tmod (m : Int) 10 = ((m % 10 : Nat) : Int) := by rw [Int.tmod_eq_emod_of_nonneg (by omega)]; omega
    rw [e1, e2, e3, e4]
    have l1 := dig_len [109] [] [] (by simp) (by simp) (by simp) (m / 1000)
    have l2 := dig_len [99] [100] [109] (by simp) (by simp) (by simp) (m / 100 % 10)
    have l3 := dig_len [120] [108] [99] (by simp) (by simp) (by simp) (m / 10 % 10)
    have l4 := dig_len [105] [118] [120] (by simp) (by simp) (by simp) (m % 10)
    have hall := rom_all m hm
    rw [hall]
    have d1 := dig_ev (dig_m ⟨m / 1000, by omega⟩)
    have d2 := dig_ev (dig_c ⟨m / 100 % 10, by omega⟩)
    have d3 := dig_ev (dig_x ⟨m / 10 % 10, by omega⟩)
    have d4 := dig_ev (dig_i ⟨m % 10, by omega⟩)
    simp only at d1 d2 d3 d4
    generalize digL [109] [] [] (m / 1000) = x1 at *
    generalize digL [99] [100] [109] (m / 100 % 10) = x2 at *
    generalize digL [120] [108] [99] (m / 10 % 10) = x3 at *
    generalize digL [105] [118] [120] (m % 10) = x4 at *
    refine Ev.bind d1 (Ev.bind d2 (Ev_ite_t (by rw [mkb_size, mkb_size]; omega) (Ev.bind d3 (Ev_ite_t (by rw [mkb_append, mkb_size, mkb_size, List.length_append]; omega) (Ev.bind d4 (Ev_ite_t (by rw [mkb_append, mkb_append, mkb_size, mkb_size, List.length_append, List.length_append]; omega) ?_))))))
    rw [mkb_append, mkb_append, mkb_append]
    exact Ev.now _
  · rw [if_neg h]
    exact Ev_ite_f h (Ev.now _)
def rrGo (s : ByteArray) : Nat → Int → Int × Bool
  | 0, _ => (0, false)
  | d + 1, i => if (romV i).toList = s.toList then (i, true) else rrGo s d (i + 1)
theorem specRead_ev (s : ByteArray) : Ev (fun k => spec_ReadRoman.f k s) (rrGo s 3999 1) := by
  have loop : ∀ (d : Nat) (i : Int), i + d = 4000 → 1 ≤ i → Ev (fun k => spec_ReadRoman.l0 k s i) (rrGo s d i) := by
    intro d
    induction d with
    | zero => intro i hi h1; exact Ev.step (f := fun _ => some (0, false)) (fun k => by rw [spec_ReadRoman.l0, if_neg (by omega)]) (Ev.now _)
    | succ d ih =>
      intro i hi h1
      refine Ev.step (f := fun k => (spec_RomanText.f k i).bind fun t => if t.toList = s.toList then some (i, true) else spec_ReadRoman.l0 k s (i + 1)) (fun k => by rw [spec_ReadRoman.l0, if_pos (by omega), w64 (x := i + 1) (by omega) (by omega)]) ?_
      refine Ev.bind (specRoman_ev i) ?_
      rw [rrGo]
      by_cases h : (romV i).toList = s.toList
      · simp only [if_pos h]; exact Ev.now _
      · simp only [if_neg h]; exact ih (i + 1) (by omega) (by omega)
  exact Ev.congr (fun k => rfl) (loop 3999 1 (by omega) (by omega))
theorem implRead_ev (s : ByteArray) : Ev (fun k => impl_ReadRoman.f k s) (rrGo s 3999 1) := by
  have loop : ∀ (d : Nat) (i : Int), i + d = 4000 → 1 ≤ i → Ev (fun k => impl_ReadRoman.l0 k s i) (rrGo s d i) := by
    intro d
    induction d with
    | zero => intro i hi h1; exact Ev.step (f := fun _ => some (0, false)) (fun k => by rw [impl_ReadRoman.l0, if_neg (by omega)]) (Ev.now _)
    | succ d ih =>
      intro i hi h1
      refine Ev.step (f := fun k => if (romV i).toList = s.toList then some (i, true) else impl_ReadRoman.l0 k s (i + 1)) (fun k => by rw [impl_ReadRoman.l0, if_pos (by omega), w64 (x := i + 1) (by omega) (by omega), implRoman_eq]; rfl) ?_
      rw [rrGo]
      by_cases h : (romV i).toList = s.toList
      · simp only [if_pos h]; exact Ev.now _
      · simp only [if_neg h]; exact ih (i + 1) (by omega) (by omega)
  exact Ev.congr (fun k => rfl) (loop 3999 1 (by omega) (by omega))
theorem FnExactReadRoman : laws_FnExactReadRoman.Pure := by
  intro s hs
  apply Ev.rounds
  unfold laws_FnExactReadRoman.f
  by_cases h : (s.size : Int) > 1048576
  · exact Ev_ite_t h (Ev.now _)
  · exact Ev_ite_f h (Ev.bind (specRead_ev s) (Ev.bind (implRead_ev s) (Ev_ite_t rfl (Ev_ite_f (by simp) (Ev.now _)))))

end Go.Proofs.Ytcgjeglkgdakcaa.Pure
