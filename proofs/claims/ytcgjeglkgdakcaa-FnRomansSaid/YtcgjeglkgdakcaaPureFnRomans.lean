/- The pure statement of FnRomans: for every input that the row lets in, the law's Lean function answers true; no further condition. -/
import Derived.Test.YtcgjeglkgdakcaaQFnRomansx4
set_option linter.unusedVariables false
set_option linter.unusedSimpArgs false
namespace Go.Proofs.Ytcgjeglkgdakcaa.Pure
open Go.RowKit Go.Proofs.Ytcgjeglkgdakcaa.QFnRomans Go.Proofs.YtcgjeglkgdakcaaW.PrintWords Go.Proofs.YtcgjeglkgdakcaaW.PrintLast

theorem w64 {x : Int} (h0 : -9223372036854775808 ≤ x) (h1 : x ≤ 9223372036854775807) : wrap64 x = x := by unfold wrap64; omega
theorem wz : wrap64 0 = 0 := w64 (by omega) (by omega)
theorem w64_range (x : Int) : -9223372036854775808 ≤ wrap64 x ∧ wrap64 x ≤ 9223372036854775807 := by unfold wrap64; omega
theorem wf64 {x : Int} (h : (Lit.int .i64 x).wf = true) : -9223372036854775808 ≤ x ∧ x ≤ 9223372036854775807 := by
  have h' : (decide (IntKind.i64.min ≤ x) && decide (x ≤ IntKind.i64.max)) = true := h
  simp only [Bool.and_eq_true, decide_eq_true_eq] at h'
  exact h'
theorem wf8 {x : Int} (h : (Lit.int .u8 x).wf = true) : 0 ≤ x ∧ x ≤ 255 := by
  have h' : (decide (IntKind.u8.min ≤ x) && decide (x ≤ IntKind.u8.max)) = true := h
  simp only [Bool.and_eq_true, decide_eq_true_eq] at h'
  exact h'
theorem rd_get {xs : List Int} {i : Nat} (h : i < xs.length) : rd xs (i : Int) = xs[i] := by
  simp [rd, List.getD_eq_getElem?_getD, h]
theorem rd_nat (xs : List Int) (i : Nat) : rd xs (i : Int) = xs.getD i 0 := by simp [rd]
theorem rd_mem {xs : List Int} {i : Nat} (h : i < xs.length) : rd xs (i : Int) ∈ xs := by rw [rd_get h]; exact List.getElem_mem h
theorem rd_ext {xs ys : List Int} (hl : xs.length = ys.length) (h : ∀ i : Nat, i < xs.length → rd xs (i : Int) = rd ys (i : Int)) : xs = ys := by
  apply List.ext_getElem hl
  intro i h1 h2
  have := h i h1
  rwa [rd_get h1, rd_get h2] at this
theorem rd_set {xs : List Int} {i j : Nat} {v : Int} (hi : i < xs.length) : rd (xs.set i v) (j : Int) = if i = j then v else rd xs (j : Int) := by
  simp only [rd_nat, List.getD_eq_getElem?_getD, List.getElem?_set]
  by_cases h : i = j
  · subst h; simp [hi]
  · simp [h]
theorem rd_append_left {xs ys : List Int} {j : Nat} (h : j < xs.length) : rd (xs ++ ys) (j : Int) = rd xs (j : Int) := by
  simp only [rd_nat, List.getD_eq_getElem?_getD, List.getElem?_append_left h]
theorem rd_append_at {xs : List Int} {v : Int} : rd (xs ++ [v]) (xs.length : Int) = v := by
  simp [rd_nat, List.getD_eq_getElem?_getD]
theorem rd_take {xs : List Int} {i j : Nat} (h : j < i) : rd (xs.take i) (j : Int) = rd xs (j : Int) := by
  simp [rd_nat, List.getD_eq_getElem?_getD, List.getElem?_take, h]
theorem rd_drop {xs : List Int} {i j : Nat} : rd (xs.drop i) (j : Int) = rd xs ((i + j : Nat) : Int) := by
  simp only [rd_nat, List.getD_eq_getElem?_getD, List.getElem?_drop]
theorem toNat_cast (i : Nat) : ((i : Nat) : Int).toNat = i := Int.toNat_natCast i
theorem drop_cons {xs : List Int} {i : Nat} (h : i < xs.length) : xs.drop i = rd xs (i : Int) :: xs.drop (i + 1) := by
  rw [rd_get h]; exact List.drop_eq_getElem_cons h
theorem Ev_ite_t {α : Type} {c : Prop} [Decidable c] {f g : Nat → Option α} {r : α} (h : c) (k : Ev f r) : Ev (fun n => if c then f n else g n) r :=
  Ev.congr (fun _ => if_pos h) k
theorem Ev_ite_f {α : Type} {c : Prop} [Decidable c] {f g : Nat → Option α} {r : α} (h : ¬ c) (k : Ev g r) : Ev (fun n => if c then f n else g n) r :=
  Ev.congr (fun _ => if_neg h) k
theorem w64n (i : Nat) (h : i < 9223372036854775807) : wrap64 ((i : Int) + 1) = ((i + 1 : Nat) : Int) := by
  rw [w64 (by omega) (by omega)]; rfl
theorem wrap_add_wrap (a b : Int) : wrap64 (wrap64 a + b) = wrap64 (a + b) := by unfold wrap64; omega
theorem wrap_add_wrap' (a b : Int) : wrap64 (a + wrap64 b) = wrap64 (a + b) := by unfold wrap64; omega
theorem EvE_bind {α β : Type} {g : Nat → Option α} {f : Nat → α → Option β} {a : α} (h : Ev g a) (k : ∃ r, Ev (fun n => f n a) r) : ∃ r, Ev (fun n => (g n).bind (f n)) r := by
  obtain ⟨r, k⟩ := k
  exact ⟨r, Ev.bind h k⟩
theorem EvE_now {α : Type} (a : α) : ∃ r, Ev (fun _ : Nat => some a) r := ⟨a, Ev.now a⟩
theorem EvE_ite_t {α : Type} {c : Prop} [Decidable c] {f g : Nat → Option α} (h : c) (k : ∃ r, Ev f r) : ∃ r, Ev (fun n => if c then f n else g n) r := by
  obtain ⟨r, k⟩ := k
  exact ⟨r, Ev_ite_t h k⟩
theorem EvE_ite_f {α : Type} {c : Prop} [Decidable c] {f g : Nat → Option α} (h : ¬ c) (k : ∃ r, Ev g r) : ∃ r, Ev (fun n => if c then f n else g n) r := by
  obtain ⟨r, k⟩ := k
  exact ⟨r, Ev_ite_f h k⟩
theorem l01In_eq (n a b : Int) : spec_l01In.f n a b = some (decide (a ≤ n ∧ n ≤ b)) := by
  unfold spec_l01In.f
  by_cases h : n ≥ a
  · rw [if_pos h]; simp [show a ≤ n from h]
  · rw [if_neg h]; simp [show ¬ a ≤ n from h]
def mkb (l : List UInt8) : ByteArray := ⟨l.toArray⟩
theorem mkb_list (l : List UInt8) : (mkb l).toList = l := by rw [ByteArray.toList_eq]; rfl
theorem mkb_size (l : List UInt8) : (mkb l).size = l.length := by show l.toArray.size = _; exact List.size_toArray
theorem mkb_append (a b : List UInt8) : mkb a ++ mkb b = mkb (a ++ b) := by
  apply ByteArray.ext
  rw [ByteArray.data_append]
  show a.toArray ++ b.toArray = (a ++ b).toArray
  simp
theorem mkb_of (s : ByteArray) : s = mkb s.data.toList := by
  apply ByteArray.ext
  show s.data = s.data.toList.toArray
  simp
def digL (o f t : List UInt8) : Nat → List UInt8
  | 0 => []
  | 1 => o
  | 2 => o ++ o
  | 3 => o ++ o ++ o
  | 4 => o ++ f
  | 5 => f
  | 6 => f ++ o
  | 7 => f ++ o ++ o
  | 8 => f ++ o ++ o ++ o
  | _ => o ++ t
theorem dig_m : ∀ d : Fin 10, (spec_l02Digit.f 6 (d.val : Int) (mkb [109]) (mkb []) (mkb [])).map (fun s => s.data.toList) = some (digL [109] [] [] d.val) := by decide +kernel
theorem dig_c : ∀ d : Fin 10, (spec_l02Digit.f 6 (d.val : Int) (mkb [99]) (mkb [100]) (mkb [109])).map (fun s => s.data.toList) = some (digL [99] [100] [109] d.val) := by decide +kernel
theorem dig_x : ∀ d : Fin 10, (spec_l02Digit.f 6 (d.val : Int) (mkb [120]) (mkb [108]) (mkb [99])).map (fun s => s.data.toList) = some (digL [120] [108] [99] d.val) := by decide +kernel
theorem dig_i : ∀ d : Fin 10, (spec_l02Digit.f 6 (d.val : Int) (mkb [105]) (mkb [118]) (mkb [120])).map (fun s => s.data.toList) = some (digL [105] [118] [120] d.val) := by decide +kernel
theorem of_map {x : Option ByteArray} {l : List UInt8} (h : x.map (fun s => s.data.toList) = some l) : x = some (mkb l) := by
  cases x with
  | none => simp at h
  | some s =>
    simp only [Option.map_some, Option.some.injEq] at h
    rw [← h, ← mkb_of]
theorem dig_ev {o f t : ByteArray} {d : Nat} {l : List UInt8} (h : (spec_l02Digit.f 6 (d : Int) o f t).map (fun s => s.data.toList) = some l) : Ev (fun k => spec_l02Digit.f k (d : Int) o f t) (mkb l) := Ev.of (spec_l02Digit.mono _ _ _ _) (of_map h)
theorem dig_len (o f t : List UInt8) (ho : o.length ≤ 1) (hf : f.length ≤ 1) (ht : t.length ≤ 1) (d : Nat) : (digL o f t d).length ≤ 4 := by
  match d with
  | 0 | 1 | 2 | 3 | 4 | 5 | 6 | 7 | 8 | n + 9 => simp [digL] <;> omega
theorem rom_all2 : ∀ a : Fin 40, ∀ b : Fin 100, romAll romTab ((100 * a.val + b.val : Nat) : Int) [] = ((digL [109] [] [] ((100 * a.val + b.val) / 1000) ++ digL [99] [100] [109] ((100 * a.val + b.val) / 100 % 10)) ++ digL [120] [108] [99] ((100 * a.val + b.val) / 10 % 10)) ++ digL [105] [118] [120] ((100 * a.val + b.val) % 10) := by decide +kernel
theorem rom_all (n : Nat) (h : n < 4000) : romAll romTab (n : Int) [] = ((digL [109] [] [] (n / 1000) ++ digL [99] [100] [109] (n / 100 % 10)) ++ digL [120] [108] [99] (n / 10 % 10)) ++ digL [105] [118] [120] (n % 10) := by
  have := rom_all2 ⟨n / 100, by omega⟩ ⟨n % 100, by omega⟩
  simp only [show 100 * (n / 100) + n % 100 = n by omega] at this
  exact this
def romV (n : Int) : ByteArray := if 1 ≤ n ∧ n ≤ 3999 then mkb (romAll romTab n []) else mkb []
theorem implRoman_eq (n : Int) : impl_RomanText.f n = some (romV n) := by
  unfold impl_RomanText.f romV
  split
  · rfl
  · rfl
theorem specRoman_ev (n : Int) : Ev (fun k => spec_RomanText.f k n) (romV n) := by
  unfold spec_RomanText.f romV
  simp only [l01In_eq, Option.bind_some, decide_eq_true_eq]
  by_cases h : 1 ≤ n ∧ n ≤ 3999
  · rw [if_pos h]
    refine Ev_ite_t h ?_
    obtain ⟨m, rfl⟩ := Int.eq_ofNat_of_zero_le (show 0 ≤ n by omega)
    have hm : m < 4000 := by omega
    have e1 : wrap64 (Int.tdiv (m : Int) 1000) = ((m / 1000 : Nat) : Int) := by rw [Int.tdiv_eq_ediv_of_nonneg (by omega), w64 (by omega) (by omega)]; omega
    have e2 : Int.tmod (wrap64 (Int.tdiv (m : Int) 100)) 10 = ((m / 100 % 10 : Nat) : Int) := by rw [Int.tdiv_eq_ediv_of_nonneg (by omega), w64 (by omega) (by omega), Int.tmod_eq_emod_of_nonneg (by omega)]; omega
    have e3 : Int.tmod (wrap64 (Int.tdiv (m : Int) 10)) 10 = ((m / 10 % 10 : Nat) : Int) := by rw [Int.tdiv_eq_ediv_of_nonneg (by omega), w64 (by omega) (by omega), Int.tmod_eq_emod_of_nonneg (by omega)]; omega
    have e4 : Int.tmod (m : Int) 10 = ((m % 10 : Nat) : Int) := by rw [Int.tmod_eq_emod_of_nonneg (by omega)]; omega
    rw [e1, e2, e3, e4]
    have l1 := dig_len [109] [] [] (by simp) (by simp) (by simp) (m / 1000)
    have l2 := dig_len [99] [100] [109] (by simp) (by simp) (by simp) (m / 100 % 10)
    have l3 := dig_len [120] [108] [99] (by simp) (by simp) (by simp) (m / 10 % 10)
    have l4 := dig_len [105] [118] [120] (by simp) (by simp) (by simp) (m % 10)
    have hall := rom_all m hm
    rw [hall]
    have d1 := dig_ev (dig_m ⟨m / 1000, by omega⟩)
    have d2 := dig_ev (dig_c ⟨m / 100 % 10, by omega⟩)
    have d3 := dig_ev (dig_x ⟨m / 10 % 10, by omega⟩)
    have d4 := dig_ev (dig_i ⟨m % 10, by omega⟩)
    simp only at d1 d2 d3 d4
    generalize digL [109] [] [] (m / 1000) = x1 at *
    generalize digL [99] [100] [109] (m / 100 % 10) = x2 at *
    generalize digL [120] [108] [99] (m / 10 % 10) = x3 at *
    generalize digL [105] [118] [120] (m % 10) = x4 at *
    refine Ev.bind d1 (Ev.bind d2 (Ev_ite_t (by rw [mkb_size, mkb_size]; omega) (Ev.bind d3 (Ev_ite_t (by rw [mkb_append, mkb_size, mkb_size, List.length_append]; omega) (Ev.bind d4 (Ev_ite_t (by rw [mkb_append, mkb_append, mkb_size, mkb_size, List.length_append, List.length_append]; omega) ?_))))))
    rw [mkb_append, mkb_append, mkb_append]
    exact Ev.now _
  · rw [if_neg h]
    exact Ev_ite_f h (Ev.now _)
def rrGo (s : ByteArray) : Nat → Int → Int × Bool
  | 0, _ => (0, false)
  | d + 1, i => if (romV i).toList = s.toList then (i, true) else rrGo s d (i + 1)
theorem specRead_ev (s : ByteArray) : Ev (fun k => spec_ReadRoman.f k s) (rrGo s 3999 1) := by
  have loop : ∀ (d : Nat) (i : Int), i + d = 4000 → 1 ≤ i → Ev (fun k => spec_ReadRoman.l0 k s i) (rrGo s d i) := by
    intro d
    induction d with
    | zero => intro i hi h1; exact Ev.step (f := fun _ => some (0, false)) (fun k => by rw [spec_ReadRoman.l0, if_neg (by omega)]) (Ev.now _)
    | succ d ih =>
      intro i hi h1
      refine Ev.step (f := fun k => (spec_RomanText.f k i).bind fun t => if t.toList = s.toList then some (i, true) else spec_ReadRoman.l0 k s (i + 1)) (fun k => by rw [spec_ReadRoman.l0, if_pos (by omega), w64 (x := i + 1) (by omega) (by omega)]) ?_
      refine Ev.bind (specRoman_ev i) ?_
      rw [rrGo]
      by_cases h : (romV i).toList = s.toList
      · simp only [if_pos h]; exact Ev.now _
      · simp only [if_neg h]; exact ih (i + 1) (by omega) (by omega)
  exact Ev.congr (fun k => rfl) (loop 3999 1 (by omega) (by omega))
theorem implRead_ev (s : ByteArray) : Ev (fun k => impl_ReadRoman.f k s) (rrGo s 3999 1) := by
  have loop : ∀ (d : Nat) (i : Int), i + d = 4000 → 1 ≤ i → Ev (fun k => impl_ReadRoman.l0 k s i) (rrGo s d i) := by
    intro d
    induction d with
    | zero => intro i hi h1; exact Ev.step (f := fun _ => some (0, false)) (fun k => by rw [impl_ReadRoman.l0, if_neg (by omega)]) (Ev.now _)
    | succ d ih =>
      intro i hi h1
      refine Ev.step (f := fun k => if (romV i).toList = s.toList then some (i, true) else impl_ReadRoman.l0 k s (i + 1)) (fun k => by rw [impl_ReadRoman.l0, if_pos (by omega), w64 (x := i + 1) (by omega) (by omega), implRoman_eq]; rfl) ?_
      rw [rrGo]
      by_cases h : (romV i).toList = s.toList
      · simp only [if_pos h]; exact Ev.now _
      · simp only [if_neg h]; exact ih (i + 1) (by omega) (by omega)
  exact Ev.congr (fun k => rfl) (loop 3999 1 (by omega) (by omega))
def Src (c : List Int) (a s : Int) : Prop := c.length ≤ 4096 ∧ (∀ x ∈ c, 0 ≤ x ∧ x ≤ 255) ∧ 0 ≤ a ∧ a ≤ c.length ∧ 0 ≤ s ∧ s < 2147483647
theorem tmod_range {x m : Int} (h : 0 ≤ x) (hm : 0 < m) : 0 ≤ Int.tmod x m ∧ Int.tmod x m < m := ⟨Int.tmod_nonneg _ h, Int.tmod_lt_of_pos _ hm⟩
theorem rd_byte {c : List Int} (hc : ∀ x ∈ c, 0 ≤ x ∧ x ≤ 255) (i : Int) : 0 ≤ rd c i ∧ rd c i ≤ 255 := by
  unfold rd
  by_cases h : i.toNat < c.length
  · simp only [List.getD_eq_getElem?_getD, List.getElem?_eq_getElem h, Option.getD_some]
    exact hc _ (List.getElem_mem h)
  · simp only [List.getD_eq_getElem?_getD, List.getElem?_eq_none (Nat.le_of_not_lt h), Option.getD_none]
    omega
theorem next_ok {c : List Int} {a s : Int} (h : Src c a s) (n : Int) (hn : n ≤ 9000000000000000000) :
    ∃ r a' s', spec_l01Next.f c a s n = some (r, a', s') ∧ Src c a' s' ∧ 0 ≤ r ∧ (1 ≤ n → r < n) := by
  obtain ⟨h1, h2, h3, h4, h5, h6⟩ := h
  unfold spec_l01Next.f
  by_cases hn1 : n ≤ 1
  · rw [if_pos hn1]
    exact ⟨0, a, s, rfl, ⟨h1, h2, h3, h4, h5, h6⟩, by omega, by omega⟩
  · rw [if_neg hn1]
    have e1 : wrap64 (wrap64 (s * 48271) + 61) = s * 48271 + 61 := by rw [w64 (x := s * 48271) (by omega) (by omega), w64 (by omega) (by omega)]
    rw [e1]
    have m1 := tmod_range (x := s * 48271 + 61) (m := 2147483647) (by omega) (by omega)
    generalize Int.tmod (s * 48271 + 61) 2147483647 = s1 at *
    have d1 : 0 ≤ Int.tdiv s1 31 ∧ Int.tdiv s1 31 ≤ 2147483647 := by
      rw [Int.tdiv_eq_ediv_of_nonneg m1.1]; omega
    rw [w64 (x := Int.tdiv s1 31) (by omega) (by omega)]
    generalize Int.tdiv s1 31 = q at *
    by_cases ha : a < (c.length : Int)
    · have e2 : wrap64 (a + 1) = a + 1 := w64 (by omega) (by omega)
      have e3 : wrap64 (a + 1 - 1) = a := by rw [w64 (by omega) (by omega)]; omega
      have b1 := rd_byte h2 a
      rw [if_pos ha, if_pos h3, e2, e3, w64 (x := rd c a) (by omega) (by omega), w64 (x := q + rd c a) (by omega) (by omega)]
      have r1 := tmod_range (x := rd c a) (m := n) b1.1 (by omega)
      have r2 := tmod_range (x := q + rd c a) (m := n) (by omega) (by omega)
      have hs : Src c (a + 1) s1 := ⟨h1, h2, by omega, by omega, m1.1, m1.2⟩
      by_cases hb : n ≤ 256
      · rw [if_pos hb]
        by_cases hc : Int.tmod (a + 1) 2 = 0
        · rw [if_pos hc, if_pos h3, if_pos ha, if_neg (by omega)]
          exact ⟨_, _, _, rfl, hs, r1.1, fun _ => r1.2⟩
        · rw [if_neg hc, if_neg (by omega)]
          exact ⟨_, _, _, rfl, hs, r2.1, fun _ => r2.2⟩
      · rw [if_neg hb, if_neg (by omega)]
        exact ⟨_, _, _, rfl, hs, r2.1, fun _ => r2.2⟩
    · rw [if_neg ha, if_neg (by omega)]
      have r1 := tmod_range (x := q) (m := n) (by omega) (by omega)
      exact ⟨_, _, _, rfl, ⟨h1, h2, h3, h4, m1.1, m1.2⟩, r1.1, fun _ => r1.2⟩
theorem from_ok (c : List Int) (hc : c.length ≤ 4096) (hb : ∀ x ∈ c, 0 ≤ x ∧ x ≤ 255) : ∃ a s, Ev (fun k => spec_l01From.f k c) (c, a, s) ∧ Src c a s := by
  have loop : ∀ (d i : Nat), i + d = c.length → ∀ s : Int, 0 ≤ s → s < 2147483647 → ∃ s', 0 ≤ s' ∧ s' < 2147483647 ∧ Ev (fun k => spec_l01From.l0 k c (i : Int) c 0 s) (c, 0, s') := by
    intro d
    induction d with
    | zero =>
      intro i hi s h0 h1
      exact ⟨s, h0, h1, Ev.step (f := fun _ => some (c, 0, s)) (fun k => by rw [spec_l01From.l0, if_neg (by omega)]) (Ev.now _)⟩
    | succ d ih =>
      intro i hi s h0 h1
      by_cases h64 : i < 64
      · have b1 := rd_byte hb (i : Int)
        have e1 : wrap64 (wrap64 (s * 71) + wrap64 (rd c (i : Int))) = s * 71 + rd c (i : Int) := by
          rw [w64 (x := s * 71) (by omega) (by omega), w64 (x := rd c (i : Int)) (by omega) (by omega), w64 (by omega) (by omega)]
        have m1 := tmod_range (x := s * 71 + rd c (i : Int)) (m := 2147483647) (by omega) (by omega)
        obtain ⟨s', g0, g1, g2⟩ := ih (i + 1) (by omega) (Int.tmod (s * 71 + rd c (i : Int)) 2147483647) m1.1 m1.2
        refine ⟨s', g0, g1, Ev.step (fun k => ?_) g2⟩
        rw [spec_l01From.l0, if_pos (by omega), if_pos (by omega), if_pos (by omega), w64n i (by omega), e1]
      · exact ⟨s, h0, h1, Ev.step (f := fun _ => some (c, 0, s)) (fun k => by rw [spec_l01From.l0, if_pos (by omega), if_neg (by omega)]) (Ev.now _)⟩
  obtain ⟨s', g0, g1, g2⟩ := loop c.length 0 (by omega) 88007 (by omega) (by omega)
  exact ⟨0, s', Ev.congr (fun k => rfl) g2, hc, hb, by omega, by omega, g0, g1⟩
theorem pick_ok {c : List Int} {a s : Int} (h : Src c a s) (l : List Int) (h0 : 0 < l.length) (h1 : l.length ≤ 1000) :
    ∃ r a' s', spec_l01Pick.f c a s l = some (r, a', s') ∧ Src c a' s' ∧ r ∈ l := by
  obtain ⟨r, a', s', e, hs, h2, h3⟩ := next_ok h (l.length : Int) (by omega)
  have h4 := h3 (by omega)
  unfold spec_l01Pick.f
  rw [e]
  simp only [Option.bind_some]
  rw [if_pos h2, if_pos h4]
  refine ⟨_, _, _, rfl, hs, ?_⟩
  obtain ⟨m, rfl⟩ := Int.eq_ofNat_of_zero_le h2
  exact rd_mem (by omega)
theorem inRange_eq (n a b : Int) : impl_inRange.f n a b = some (decide (a ≤ n ∧ n ≤ b)) := by
  unfold impl_inRange.f
  by_cases h : a ≤ n
  · rw [if_pos h]; simp [h]
  · rw [if_neg h]; simp [h]
theorem padded_eq (a b : Int) : spec_PaddedCount.f a b = impl_PaddedCount.f a b := by
  unfold spec_PaddedCount.f impl_PaddedCount.f spec_l01Ceil.f impl_padded.f
  simp only [l01In_eq, inRange_eq, Option.bind_some]
  split
  · split
    · by_cases h : b = 0
      · simp [h]
      · simp [h]
    · rfl
  · rfl
theorem padded_some (a b : Int) : ∃ r, impl_PaddedCount.f a b = some r := by
  unfold impl_PaddedCount.f impl_padded.f
  simp only [inRange_eq, Option.bind_some]
  split
  · split
    · rename_i h
      rw [decide_eq_true_iff] at h
      rw [if_neg (by omega)]
      exact ⟨_, rfl⟩
    · exact ⟨_, rfl⟩
  · exact ⟨_, rfl⟩
theorem drawRoman_ok (c : List Int) (hc : c.length ≤ 4096) (hb : ∀ x ∈ c, 0 ≤ x ∧ x ≤ 255) : ∃ r, Ev (fun k => spec_DrawRomanText.f k c) r := by
  obtain ⟨a, s, hf, h0⟩ := from_ok c hc hb
  obtain ⟨r1, a1, s1, e1, h1, _⟩ := next_ok h0 40 (by omega)
  obtain ⟨r2, a2, s2, e2, h2, _⟩ := next_ok h1 3999 (by omega)
  obtain ⟨r3, a3, s3, e3, h3, _⟩ := pick_ok h2 [0, (-1), 3999, 4000, 1994, 444, 999] (by simp) (by simp)
  obtain ⟨r4, a4, s4, e4, h4, _⟩ := pick_ok h3 [wrap64 (1 + r1), wrap64 (1 + r2), r3] (by simp) (by simp)
  unfold spec_DrawRomanText.f
  refine ⟨r4, Ev.bind hf ?_⟩
  simp only [e1, e2, e3, e4, Option.bind_some]
  exact Ev.now _
theorem romV_size (n : Int) : (romV n).size ≤ 16 := by
  unfold romV
  split
  · rename_i h
    obtain ⟨m, rfl⟩ := Int.eq_ofNat_of_zero_le (show 0 ≤ n by omega)
    rw [mkb_size, rom_all m (by omega), List.length_append, List.length_append, List.length_append]
    have l1 := dig_len [109] [] [] (by simp) (by simp) (by simp) (m / 1000)
    have l2 := dig_len [99] [100] [109] (by simp) (by simp) (by simp) (m / 100 % 10)
    have l3 := dig_len [120] [108] [99] (by simp) (by simp) (by simp) (m / 10 % 10)
    have l4 := dig_len [105] [118] [120] (by simp) (by simp) (by simp) (m % 10)
    omega
  · simp [mkb_size]
theorem drawRead_ok (c : List Int) (hc : c.length ≤ 4096) (hb : ∀ x ∈ c, 0 ≤ x ∧ x ≤ 255) : ∃ r, Ev (fun k => spec_DrawReadRoman.f k c) r := by
  obtain ⟨a, s, hf, h0⟩ := from_ok c hc hb
  obtain ⟨r1, a1, s1, e1, h1, _⟩ := next_ok h0 4000 (by omega)
  have hr := specRoman_ev (wrap64 (1 + r1))
  have hz := romV_size (wrap64 (1 + r1))
  generalize romV (wrap64 (1 + r1)) = t at hr hz
  obtain ⟨r2, a2, s2, e2, h2, _⟩ := next_ok h1 3 (by omega)
  unfold spec_DrawReadRoman.f
  by_cases h : r2 = 0
  · have ew : wrap64 ((t.size : Int) + 1) = (t.size : Int) + 1 := w64 (by omega) (by omega)
    obtain ⟨r3, a3, s3, e3, h3, g0, g1⟩ := next_ok h2 ((t.size : Int) + 1) (by omega)
    have g2 := g1 (by omega)
    obtain ⟨r4, a4, s4, e4, h4, k0, k1⟩ := next_ok h3 6 (by omega)
    have k2 := k1 (by omega)
    obtain ⟨m, rfl⟩ := Int.eq_ofNat_of_zero_le k0
    have hsz : (rdOf ByteArray.empty ([(⟨#[105]⟩ : ByteArray), (⟨#[118]⟩ : ByteArray), (⟨#[120]⟩ : ByteArray), (⟨#[99]⟩ : ByteArray), (⟨#[109]⟩ : ByteArray), (⟨#[97]⟩ : ByteArray)] : List ByteArray) (m : Int)).size ≤ 1 := by
      match m, k2 with
      | 0, _ | 1, _ | 2, _ | 3, _ | 4, _ | 5, _ => exact Nat.le_refl _
      | n + 6, h => omega
    refine EvE_bind hf ?_
    simp only [e1, Option.bind_some]
    refine EvE_bind hr ?_
    simp only [e2, Option.bind_some, if_pos h, ew, e3, e4]
    rw [if_pos g0, if_pos (by omega), if_pos k0, if_pos (by simp; omega), if_pos (by rw [ByteArray.size_extract]; omega), if_pos (by rw [ByteArray.size_append, ByteArray.size_extract, ByteArray.size_extract]; omega)]
    exact EvE_now _
  · refine ⟨t, Ev.bind hf ?_⟩
    simp only [e1, Option.bind_some]
    refine Ev.bind hr ?_
    simp only [e2, Option.bind_some, if_neg h]
    exact Ev.now _
theorem drawPadded_ok (c : List Int) (hc : c.length ≤ 4096) (hb : ∀ x ∈ c, 0 ≤ x ∧ x ≤ 255) : ∃ r, Ev (fun k => spec_DrawPaddedCount.f k c) r := by
  obtain ⟨a, s, hf, h0⟩ := from_ok c hc hb
  obtain ⟨r1, a1, s1, e1, h1, _⟩ := next_ok h0 8 (by omega)
  unfold spec_DrawPaddedCount.f
  by_cases h : r1 = 0
  · obtain ⟨r2, a2, s2, e2, h2, _⟩ := pick_ok h1 [(-1), 0, 1000000000, 1000000001] (by simp) (by simp)
    obtain ⟨r3, a3, s3, e3, h3, _⟩ := pick_ok h2 [0, 1, 1000000000, 1000000001] (by simp) (by simp)
    refine ⟨(r2, r3), Ev.bind hf ?_⟩
    simp only [e1, Option.bind_some, if_pos h, e2, e3]
    exact Ev.now _
  · obtain ⟨r2, a2, s2, e2, h2, _⟩ := next_ok h1 300 (by omega)
    obtain ⟨r3, a3, s3, e3, h3, _⟩ := next_ok h2 40 (by omega)
    refine ⟨(r2, wrap64 (1 + r3)), Ev.bind hf ?_⟩
    simp only [e1, Option.bind_some, if_neg h, e2, e3]
    exact Ev.now _
def symV : UInt8 → Nat := fun c => if c = 109 then 1000 else if c = 100 then 500 else if c = 99 then 100 else if c = 108 then 50 else if c = 120 then 10 else if c = 118 then 5 else 1
def decR : List UInt8 → Int
  | [] => 0
  | [a] => symV a
  | a :: b :: t => (if symV a < symV b then - (symV a : Int) else symV a) + decR (b :: t)
theorem dec_all : ∀ a : Fin 40, ∀ b : Fin 100, decR (romAll romTab ((100 * a.val + b.val : Nat) : Int) []) = ((100 * a.val + b.val : Nat) : Int) := by decide +kernel
theorem dec_roman {n : Int} (h : 1 ≤ n ∧ n ≤ 3999) : decR (romV n).toList = n := by
  obtain ⟨m, rfl⟩ := Int.eq_ofNat_of_zero_le (show 0 ≤ n by omega)
  unfold romV
  rw [if_pos h, mkb_list]
  have := dec_all ⟨m / 100, by omega⟩ ⟨m % 100, by omega⟩
  simp only [show 100 * (m / 100) + m % 100 = m by omega] at this
  exact this
theorem rr_found (n : Int) (h : 1 ≤ n ∧ n ≤ 3999) : ∀ (d : Nat) (i : Int), i + d = 4000 → 1 ≤ i → i ≤ n → rrGo (romV n) d i = (n, true)
  | 0, i, hi, h1, hn => by omega
  | d + 1, i, hi, h1, hn => by
    rw [rrGo]
    by_cases e : (romV i).toList = (romV n).toList
    · have e1 := dec_roman (n := i) ⟨h1, by omega⟩
      have e2 := dec_roman h
      rw [e] at e1
      rw [if_pos e, ← e1, e2]
    · rw [if_neg e]
      have : i ≠ n := fun z => e (by rw [z])
      exact rr_found n h d (i + 1) (by omega) (by omega) (by omega)
theorem padded_law (a u : Int) (r : Int × Int) (h : impl_PaddedCount.f a u = some r) (h0 : r.2 = 0) : u ≠ 0 ∧ Int.tmod r.1 u = 0 ∧ r.1 ≥ a ∧ r.1 < wrap64 (a + u) := by
  unfold impl_PaddedCount.f impl_padded.f at h
  simp only [inRange_eq, Option.bind_some, decide_eq_true_eq] at h
  by_cases h1 : 0 ≤ a ∧ a ≤ 1000000000
  · rw [if_pos h1] at h
    by_cases h2 : 1 ≤ u ∧ u ≤ 1000000000
    · rw [if_pos h2, if_neg (by omega)] at h
      simp only [Option.bind_some, Option.some.injEq] at h
      rw [w64 (x := a + u) (by omega) (by omega), w64 (x := a + u - 1) (by omega) (by omega), Int.tdiv_eq_ediv_of_nonneg (by omega)] at h
      have q0 : 0 ≤ (a + u - 1) / u := Int.ediv_nonneg (by omega) (by omega)
      have q1 : (a + u - 1) / u ≤ a + u - 1 := Int.ediv_le_self _ (by omega)
      rw [w64 (x := (a + u - 1) / u) (by omega) (by omega)] at h
      have e := Int.mul_ediv_add_emod (a + u - 1) u
      have m0 := Int.emod_nonneg (a + u - 1) (show u ≠ 0 by omega)
      have m1 := Int.emod_lt_of_pos (a + u - 1) (show 0 < u by omega)
      have ec : (a + u - 1) / u * u = u * ((a + u - 1) / u) := Int.mul_comm _ _
      have hz : Int.tmod ((a + u - 1) / u * u) u = 0 := Int.mul_tmod_left _ _
      rw [w64 (x := (a + u - 1) / u * u) (by rw [ec]; omega) (by rw [ec]; omega)] at h
      rw [← h, w64 (x := a + u) (by omega) (by omega)]
      simp only
      refine ⟨by omega, hz, ?_, ?_⟩
      · rw [ec]; omega
      · rw [ec]; omega
    · rw [if_neg h2] at h
      simp only [Option.some.injEq] at h
      rw [← h] at h0; simp at h0
  · rw [if_neg h1] at h
    simp only [Option.some.injEq] at h
    rw [← h] at h0; simp at h0
theorem FnRomans : laws_FnRomans.Pure := by
  intro c hc1 hc2 hw
  apply Ev.rounds
  unfold laws_FnRomans.f laws_big.f
  simp only [Option.bind_some, decide_eq_true_eq]
  by_cases hb : (c.length : Int) > 4096
  · exact Ev_ite_t hb (Ev.now _)
  · refine Ev_ite_f hb ?_
    have hcb := fun x hx => wf8 (hw x hx)
    obtain ⟨n, hn⟩ := drawRoman_ok c (by omega) hcb
    obtain ⟨s, hs⟩ := drawRead_ok c (by omega) hcb
    obtain ⟨p, hp⟩ := drawPadded_ok c (by omega) hcb
    obtain ⟨v, hv⟩ := padded_some p.1 p.2
    refine Ev.bind hn ?_
    simp only [implRoman_eq, Option.bind_some]
    refine Ev.bind hs (Ev.bind (implRead_ev s) (Ev.bind (specRead_ev s) (Ev.bind hp ?_)))
    simp only [padded_eq, hv, Option.bind_some]
    refine Ev.bind (specRoman_ev n) (Ev_ite_t rfl (Ev_ite_t trivial (Ev_ite_f (by simp) (Ev_ite_t trivial ?_))))
    refine Ev.step (fun k => by rw [laws_FnRomans.j0, if_neg (by simp)]) ?_
    have hend : Ev (fun _ : Nat => if v.2 = 0 then (if p.2 = 0 then none else if Int.tmod v.1 p.2 = 0 then (if v.1 ≥ p.1 then some (decide (v.1 < wrap64 (p.1 + p.2))) else some false) else some false) else some true) true := by
      by_cases h0 : v.2 = 0
      · obtain ⟨q0, q1, q2, q3⟩ := padded_law p.1 p.2 v hv h0
        simp only [if_pos h0, if_neg q0, if_pos q1, if_pos q2, decide_eq_true q3]
        exact Ev.now _
      · simp only [if_neg h0]
        exact Ev.now _
    by_cases he : (romV n).toList = ([] : List UInt8)
    · exact Ev_ite_t he hend
    · refine Ev_ite_f he (Ev.bind (implRead_ev (romV n)) ?_)
      have hr : 1 ≤ n ∧ n ≤ 3999 := by
        by_cases hr : 1 ≤ n ∧ n ≤ 3999
        · exact hr
        · exfalso
          apply he
          unfold romV
          rw [if_neg hr, mkb_list]
      rw [rr_found n hr 3999 1 (by omega) (by omega) hr.1]
      exact Ev_ite_t rfl (Ev_ite_t rfl hend)

end Go.Proofs.Ytcgjeglkgdakcaa.Pure
