/- The pure statement of FnSchemes: for every input that the row lets in, the law's Lean function answers true; no further condition. -/
import Derived.Test.YtijbccmcfagnfaaDoorQFnSchemesx14
set_option linter.unusedVariables false
set_option linter.unusedSimpArgs false
namespace Go.Proofs.YtijbccmcfagnfaaDoor.Pure
open Go.RowKit Go.Proofs.YtijbccmcfagnfaaDoor.QFnSchemes Go.Proofs.YtijbccmcfagnfaaDoorW.PrintWords Go.Proofs.YtijbccmcfagnfaaDoorW.PrintLast

theorem w64 {x : Int} (h0 : -9223372036854775808 ≤ x) (h1 : x ≤ 9223372036854775807) : wrap64 x = x := by unfold wrap64; omega
theorem wz : wrap64 0 = 0 := w64 (by omega) (by omega)
theorem w64_range (x : Int) : -9223372036854775808 ≤ wrap64 x ∧ wrap64 x ≤ 9223372036854775807 := by unfold wrap64; omega
theorem wf64 {x : Int} (h : (Lit.int .i64 x).wf = true) : -9223372036854775808 ≤ x ∧ x ≤ 9223372036854775807 := by
  have h' : (decide (IntKind.i64.min ≤ x) && decide (x ≤ IntKind.i64.max)) = true := h
  simp only [Bool.and_eq_true, decide_eq_true_eq] at h'
  exact h'
theorem wf8 {x : Int} (h : (Lit.int .u8 x).wf = true) : 0 ≤ x ∧ x ≤ 255 := by
  have h' : (decide (IntKind.u8.min ≤ x) && decide (x ≤ IntKind.u8.max)) = true := h
  simp only [Bool.and_eq_true, decide_eq_true_eq] at h'
  exact h'
theorem rd_get {xs : List Int} {i : Nat} (h : i < xs.length) : rd xs (i : Int) = xs[i] := by
  simp [rd, List.getD_eq_getElem?_getD, h]
theorem rd_nat (xs : List Int) (i : Nat) : rd xs (i : Int) = xs.getD i 0 := by simp [rd]
theorem rd_mem {xs : List Int} {i : Nat} (h : i < xs.length) : rd xs (i : Int) ∈ xs := by rw [rd_get h]; exact List.getElem_mem h
theorem rd_ext {xs ys : List Int} (hl : xs.length = ys.length) (h : ∀ i : Nat, i < xs.length → rd xs (i : Int) = rd ys (i : Int)) : xs = ys := by
  apply List.ext_getElem hl
  intro i h1 h2
  have := h i h1
  rwa [rd_get h1, rd_get h2] at this
theorem rd_set {xs : List Int} {i j : Nat} {v : Int} (hi : i < xs.length) : rd (xs.set i v) (j : Int) = if i = j then v else rd xs (j : Int) := by
  simp only [rd_nat, List.getD_eq_getElem?_getD, List.getElem?_set]
  by_cases h : i = j
  · subst h; simp [hi]
  · simp [h]
theorem rd_append_left {xs ys : List Int} {j : Nat} (h : j < xs.length) : rd (xs ++ ys) (j : Int) = rd xs (j : Int) := by
  simp only [rd_nat, List.getD_eq_getElem?_getD, List.getElem?_append_left h]
theorem rd_append_at {xs : List Int} {v : Int} : rd (xs ++ [v]) (xs.length : Int) = v := by
  simp [rd_nat, List.getD_eq_getElem?_getD]
theorem rd_take {xs : List Int} {i j : Nat} (h : j < i) : rd (xs.take i) (j : Int) = rd xs (j : Int) := by
  simp [rd_nat, List.getD_eq_getElem?_getD, List.getElem?_take, h]
theorem rd_drop {xs : List Int} {i j : Nat} : rd (xs.drop i) (j : Int) = rd xs ((i + j : Nat) : Int) := by
  simp only [rd_nat, List.getD_eq_getElem?_getD, List.getElem?_drop]
theorem toNat_cast (i : Nat) : ((i : Nat) : Int).toNat = i := Int.toNat_natCast i
theorem drop_cons {xs : List Int} {i : Nat} (h : i < xs.length) : xs.drop i = rd xs (i : Int) :: xs.drop (i + 1) := by
  rw [rd_get h]; exact List.drop_eq_getElem_cons h
theorem Ev_ite_t {α : Type} {c : Prop} [Decidable c] {f g : Nat → Option α} {r : α} (h : c) (k : Ev f r) : Ev (fun n => if c then f n else g n) r :=
  Ev.congr (fun _ => if_pos h) k
theorem Ev_ite_f {α : Type} {c : Prop} [Decidable c] {f g : Nat → Option α} {r : α} (h : ¬ c) (k : Ev g r) : Ev (fun n => if c then f n else g n) r :=
  Ev.congr (fun _ => if_neg h) k
theorem w64n (i : Nat) (h : i < 9223372036854775807) : wrap64 ((i : Int) + 1) = ((i + 1 : Nat) : Int) := by
  rw [w64 (by omega) (by omega)]; rfl
theorem wrap_add_wrap (a b : Int) : wrap64 (wrap64 a + b) = wrap64 (a + b) := by unfold wrap64; omega
theorem wrap_add_wrap' (a b : Int) : wrap64 (a + wrap64 b) = wrap64 (a + b) := by unfold wrap64; omega
theorem EvE_bind {α β : Type} {g : Nat → Option α} {f : Nat → α → Option β} {a : α} (h : Ev g a) (k : ∃ r, Ev (fun n => f n a) r) : ∃ r, Ev (fun n => (g n).bind (f n)) r := by
  obtain ⟨r, k⟩ := k
  exact ⟨r, Ev.bind h k⟩
theorem EvE_now {α : Type} (a : α) : ∃ r, Ev (fun _ : Nat => some a) r := ⟨a, Ev.now a⟩
theorem EvE_ite_t {α : Type} {c : Prop} [Decidable c] {f g : Nat → Option α} (h : c) (k : ∃ r, Ev f r) : ∃ r, Ev (fun n => if c then f n else g n) r := by
  obtain ⟨r, k⟩ := k
  exact ⟨r, Ev_ite_t h k⟩
theorem EvE_ite_f {α : Type} {c : Prop} [Decidable c] {f g : Nat → Option α} (h : ¬ c) (k : ∃ r, Ev g r) : ∃ r, Ev (fun n => if c then f n else g n) r := by
  obtain ⟨r, k⟩ := k
  exact ⟨r, Ev_ite_f h k⟩
def Src (c : List Int) (a s : Int) : Prop := c.length ≤ 4096 ∧ (∀ x ∈ c, 0 ≤ x ∧ x ≤ 255) ∧ 0 ≤ a ∧ a ≤ c.length ∧ 0 ≤ s ∧ s < 2147483647
theorem tmod_range {x m : Int} (h : 0 ≤ x) (hm : 0 < m) : 0 ≤ Int.tmod x m ∧ Int.tmod x m < m := ⟨Int.tmod_nonneg _ h, Int.tmod_lt_of_pos _ hm⟩
theorem rd_byte {c : List Int} (hc : ∀ x ∈ c, 0 ≤ x ∧ x ≤ 255) (i : Int) : 0 ≤ rd c i ∧ rd c i ≤ 255 := by
  unfold rd
  by_cases h : i.toNat < c.length
  · simp only [List.getD_eq_getElem?_getD, List.getElem?_eq_getElem h, Option.getD_some]
    exact hc _ (List.getElem_mem h)
  · simp only [List.getD_eq_getElem?_getD, List.getElem?_eq_none (Nat.le_of_not_lt h), Option.getD_none]
    omega
theorem next_ok {c : List Int} {a s : Int} (h : Src c a s) (n : Int) (hn : n ≤ 9000000000000000000) :
    ∃ r a' s', spec_l01Next.f c a s n = some (r, a', s') ∧ Src c a' s' ∧ 0 ≤ r ∧ (1 ≤ n → r < n) := by
  obtain ⟨h1, h2, h3, h4, h5, h6⟩ := h
  unfold spec_l01Next.f
  by_cases hn1 : n ≤ 1
  · rw [if_pos hn1]
    exact ⟨0, a, s, rfl, ⟨h1, h2, h3, h4, h5, h6⟩, by omega, by omega⟩
  · rw [if_neg hn1]
    have e1 : wrap64 (wrap64 (s * 48271) + 61) = s * 48271 + 61 := by rw [w64 (x := s * 48271) (by omega) (by omega), w64 (by omega) (by omega)]
    rw [e1]
    have m1 := tmod_range (x := s * 48271 + 61) (m := 2147483647) (by omega) (by omega)
    generalize Int.tmod (s * 48271 + 61) 2147483647 = s1 at *
    have d1 : 0 ≤ Int.tdiv s1 31 ∧ Int.tdiv s1 31 ≤ 2147483647 := by
      rw [Int.tdiv_eq_ediv_of_nonneg m1.1]; omega
    rw [w64 (x := Int.tdiv s1 31) (by omega) (by omega)]
    generalize Int.tdiv s1 31 = q at *
    by_cases ha : a < (c.length : Int)
    · have e2 : wrap64 (a + 1) = a + 1 := w64 (by omega) (by omega)
      have e3 : wrap64 (a + 1 - 1) = a := by rw [w64 (by omega) (by omega)]; omega
      have b1 := rd_byte h2 a
      rw [if_pos ha, if_pos h3, e2, e3, w64 (x := rd c a) (by omega) (by omega), w64 (x := q + rd c a) (by omega) (by omega)]
      have r1 := tmod_range (x := rd c a) (m := n) b1.1 (by omega)
      have r2 := tmod_range (x := q + rd c a) (m := n) (by omega) (by omega)
      have hs : Src c (a + 1) s1 := ⟨h1, h2, by omega, by omega, m1.1, m1.2⟩
      by_cases hb : n ≤ 256
      · rw [if_pos hb]
        by_cases hc : Int.tmod (a + 1) 2 = 0
        · rw [if_pos hc, if_pos h3, if_pos ha, if_neg (by omega)]
          exact ⟨_, _, _, rfl, hs, r1.1, fun _ => r1.2⟩
        · rw [if_neg hc, if_neg (by omega)]
          exact ⟨_, _, _, rfl, hs, r2.1, fun _ => r2.2⟩
      · rw [if_neg hb, if_neg (by omega)]
        exact ⟨_, _, _, rfl, hs, r2.1, fun _ => r2.2⟩
    · rw [if_neg ha, if_neg (by omega)]
      have r1 := tmod_range (x := q) (m := n) (by omega) (by omega)
      exact ⟨_, _, _, rfl, ⟨h1, h2, h3, h4, m1.1, m1.2⟩, r1.1, fun _ => r1.2⟩
theorem from_ok (c : List Int) (hc : c.length ≤ 4096) (hb : ∀ x ∈ c, 0 ≤ x ∧ x ≤ 255) : ∃ a s, Ev (fun k => spec_l01From.f k c) (c, a, s) ∧ Src c a s := by
  have loop : ∀ (d i : Nat), i + d = c.length → ∀ s : Int, 0 ≤ s → s < 2147483647 → ∃ s', 0 ≤ s' ∧ s' < 2147483647 ∧ Ev (fun k => spec_l01From.l0 k c (i : Int) c 0 s) (c, 0, s') := by
    intro d
    induction d with
    | zero =>
      intro i hi s h0 h1
      exact ⟨s, h0, h1, Ev.step (f := fun _ => some (c, 0, s)) (fun k => by rw [spec_l01From.l0, if_neg (by omega)]) (Ev.now _)⟩
    | succ d ih =>
      intro i hi s h0 h1
      by_cases h64 : i < 64
      · have b1 := rd_byte hb (i : Int)
        have e1 : wrap64 (wrap64 (s * 71) + wrap64 (rd c (i : Int))) = s * 71 + rd c (i : Int) := by
          rw [w64 (x := s * 71) (by omega) (by omega), w64 (x := rd c (i : Int)) (by omega) (by omega), w64 (by omega) (by omega)]
        have m1 := tmod_range (x := s * 71 + rd c (i : Int)) (m := 2147483647) (by omega) (by omega)
        obtain ⟨s', g0, g1, g2⟩ := ih (i + 1) (by omega) (Int.tmod (s * 71 + rd c (i : Int)) 2147483647) m1.1 m1.2
        refine ⟨s', g0, g1, Ev.step (fun k => ?_) g2⟩
        rw [spec_l01From.l0, if_pos (by omega), if_pos (by omega), if_pos (by omega), w64n i (by omega), e1]
      · exact ⟨s, h0, h1, Ev.step (f := fun _ => some (c, 0, s)) (fun k => by rw [spec_l01From.l0, if_pos (by omega), if_neg (by omega)]) (Ev.now _)⟩
  obtain ⟨s', g0, g1, g2⟩ := loop c.length 0 (by omega) 88007 (by omega) (by omega)
  exact ⟨0, s', Ev.congr (fun k => rfl) g2, hc, hb, by omega, by omega, g0, g1⟩
theorem pick_ok {c : List Int} {a s : Int} (h : Src c a s) (l : List Int) (h0 : 0 < l.length) (h1 : l.length ≤ 1000) :
    ∃ r a' s', spec_l01Pick.f c a s l = some (r, a', s') ∧ Src c a' s' ∧ r ∈ l := by
  obtain ⟨r, a', s', e, hs, h2, h3⟩ := next_ok h (l.length : Int) (by omega)
  have h4 := h3 (by omega)
  unfold spec_l01Pick.f
  rw [e]
  simp only [Option.bind_some]
  rw [if_pos h2, if_pos h4]
  refine ⟨_, _, _, rfl, hs, ?_⟩
  obtain ⟨m, rfl⟩ := Int.eq_ofNat_of_zero_le h2
  exact rd_mem (by omega)
theorem strOf_size (l : List Int) : (strOfNums l).size = l.length := by
  show (List.map _ l).toArray.size = _
  simp
theorem side_cases (a : Int) : (∃ j : Nat, j ≤ 3 ∧ a = ((2 ^ j : Nat) : Int) ∧ spec_l04Power.f a = some ((j : Int), true) ∧ impl_isSide.f a = some true ∧ Ev (fun k => impl_halvings.f k a) (j : Int)) ∨ (spec_l04Power.f a = some (0, false) ∧ impl_isSide.f a = some false) := by
  by_cases h1 : a = 1
  · subst h1; exact .inl ⟨0, by decide, by decide, by decide +kernel, by decide +kernel, Ev.of (impl_halvings.mono _) (k := 10) (by decide +kernel)⟩
  by_cases h2 : a = 2
  · subst h2; exact .inl ⟨1, by decide, by decide, by decide +kernel, by decide +kernel, Ev.of (impl_halvings.mono _) (k := 10) (by decide +kernel)⟩
  by_cases h4 : a = 4
  · subst h4; exact .inl ⟨2, by decide, by decide, by decide +kernel, by decide +kernel, Ev.of (impl_halvings.mono _) (k := 10) (by decide +kernel)⟩
  by_cases h8 : a = 8
  · subst h8; exact .inl ⟨3, by decide, by decide, by decide +kernel, by decide +kernel, Ev.of (impl_halvings.mono _) (k := 10) (by decide +kernel)⟩
  · refine .inr ⟨?_, ?_⟩
    · unfold spec_l04Power.f
      rw [if_neg h1, if_neg h2, if_neg h4, if_neg h8]
    · unfold impl_isSide.f
      rw [if_neg h1, if_neg h2, if_neg h4, show (a == 8) = false from beq_false_of_ne h8]
theorem mem_bounds {lo hi : Int} : ∀ {l : List Int} {r : Int}, r ∈ l → (∀ x ∈ l, lo ≤ x ∧ x ≤ hi) → lo ≤ r ∧ r ≤ hi := fun h f => f _ h
theorem drawSide_ok {c : List Int} {a s : Int} (h : Src c a s) : ∃ r a' s', spec_l04DrawSide.f c a s = some (r, a', s') ∧ Src c a' s' ∧ -1 ≤ r ∧ r ≤ 16 := by
  obtain ⟨m, a1, s1, e1, h1, _, _⟩ := next_ok h 40 (by omega)
  unfold spec_l04DrawSide.f
  rw [e1]
  simp only [Option.bind_some]
  by_cases hm : m = 0
  · obtain ⟨r, a2, s2, e2, h2, h3⟩ := pick_ok h1 [0, 3, (-1), 16] (by simp) (by simp)
    rw [if_pos hm, e2]
    refine ⟨r, a2, s2, rfl, h2, ?_⟩
    simp only [List.mem_cons, List.not_mem_nil, or_false] at h3
    omega
  · obtain ⟨r, a2, s2, e2, h2, h3⟩ := pick_ok h1 [1, 2, 2, 4, 4, 8] (by simp) (by simp)
    rw [if_neg hm, e2]
    refine ⟨r, a2, s2, rfl, h2, ?_⟩
    simp only [List.mem_cons, List.not_mem_nil, or_false] at h3
    omega
theorem power_ok (a : Int) : ∃ (j : Nat) (q : Bool), j ≤ 3 ∧ spec_l04Power.f a = some ((j : Int), q) := by
  rcases side_cases a with ⟨j, j1, _, j3, _⟩ | ⟨j3, _⟩
  · exact ⟨j, true, j1, j3⟩
  · exact ⟨0, false, by omega, j3⟩
theorem drawSheet_ok {c : List Int} {a s : Int} (h0 : Src c a s) : ∃ w h t a' s', Ev (fun k => spec_l04Draw.f k c a s) (w, h, t, a', s') ∧ Src c a' s' ∧ t.size ≤ 7 ∧ -1 ≤ w ∧ w ≤ 16 ∧ -1 ≤ h ∧ h ≤ 16 := by
  obtain ⟨w, a1, s1, e1, h1, w0, w1⟩ := drawSide_ok h0
  obtain ⟨h, a2, s2, e2, h2, v0, v1⟩ := drawSide_ok h1
  obtain ⟨i, qi, i1, e3⟩ := power_ok w
  obtain ⟨j, qj, j1, e4⟩ := power_ok h
  have loop : ∀ (d i j : Nat) (x : List Int) (a s : Int), i + j = d → Src c a s → x.length + d ≤ 6 → ∃ t a' s', Ev (fun k => spec_l04Draw.l0 k w h (i : Int) (j : Int) x c a s) (w, h, t, a', s') ∧ Src c a' s' ∧ t.size ≤ 7 := by
    intro d
    induction d with
    | zero =>
      intro i j x a s hd h hx
      obtain ⟨m, a2, s2, e2, h2, m0, _⟩ := next_ok h 40 (by omega)
      have hz := strOf_size x
      have hg : ¬ wrap64 ((i : Int) + (j : Int)) > 0 := by rw [w64 (by omega) (by omega)]; omega
      by_cases m1 : m = 0
      · refine ⟨_, a2, s2, Ev.step (f := fun _ => some (w, _, (strOfNums x) ++ (⟨#[76]⟩ : ByteArray), a2, s2)) (fun k => ?_) (Ev.now _), h2, ?_⟩
        · rw [spec_l04Draw.l0, if_neg hg, e2]
          simp only [Option.bind_some]
          rw [if_pos m1, if_pos (by omega)]
        · rw [ByteArray.size_append]
          show (strOfNums x).size + 1 ≤ 7
          omega
      · by_cases m2 : m = 1
        · refine ⟨_, a2, s2, Ev.step (f := fun _ => some (w, _, (⟨#[120]⟩ : ByteArray), a2, s2)) (fun k => ?_) (Ev.now _), h2, (show 1 ≤ 7 by omega)⟩
          rw [spec_l04Draw.l0, if_neg hg, e2]
          simp only [Option.bind_some]
          rw [if_neg m1, if_pos m2]
        · refine ⟨_, a2, s2, Ev.step (f := fun _ => some (w, _, strOfNums x, a2, s2)) (fun k => ?_) (Ev.now _), h2, by omega⟩
          rw [spec_l04Draw.l0, if_neg hg, e2]
          simp only [Option.bind_some]
          rw [if_neg m1, if_neg m2]
    | succ d ih =>
      intro i j x a s hd h hx
      have hw : wrap64 ((i : Int) + (j : Int)) = (i : Int) + (j : Int) := w64 (by omega) (by omega)
      have hg : wrap64 ((i : Int) + (j : Int)) > 0 := by rw [hw]; omega
      obtain ⟨p, a1, s1, e1, h1, p0, p1⟩ := next_ok h ((i : Int) + (j : Int)) (by omega)
      have p2 := p1 (by omega)
      obtain ⟨m, a2, s2, e2, h2, m0, m1⟩ := next_ok h1 2 (by omega)
      have m2 := m1 (by omega)
      by_cases hp : p < (i : Int)
      · obtain ⟨t, a', s', g1, g2, g3⟩ := ih (i - 1) j (x ++ [bt (⟨#[76, 82]⟩ : ByteArray) m]) a2 s2 (by omega) h2 (by rw [List.length_append]; simp; omega)
        refine ⟨t, a', s', Ev.step (fun k => ?_) g1, g2, g3⟩
        rw [spec_l04Draw.l0, if_pos hg, hw, e1]
        simp only [Option.bind_some]
        rw [if_pos hp, e2]
        simp only [Option.bind_some]
        rw [if_pos m0, if_pos m2, if_pos (by omega), w64 (x := (i : Int) - 1) (by omega) (by omega), show (i : Int) - 1 = ((i - 1 : Nat) : Int) by omega]
      · obtain ⟨t, a', s', g1, g2, g3⟩ := ih i (j - 1) (x ++ [bt (⟨#[84, 66]⟩ : ByteArray) m]) a2 s2 (by omega) h2 (by rw [List.length_append]; simp; omega)
        refine ⟨t, a', s', Ev.step (fun k => ?_) g1, g2, g3⟩
        rw [spec_l04Draw.l0, if_pos hg, hw, e1]
        simp only [Option.bind_some]
        rw [if_neg hp, e2]
        simp only [Option.bind_some]
        rw [if_pos m0, if_pos m2, if_pos (by omega), w64 (x := (j : Int) - 1) (by omega) (by omega), show (j : Int) - 1 = ((j - 1 : Nat) : Int) by omega]
  obtain ⟨t, a', s', g1, g2, g3⟩ := loop (i + j) i j [] a2 s2 rfl h2 (by simp; omega)
  refine ⟨w, h, t, a', s', ?_, g2, g3, w0, w1, v0, v1⟩
  unfold spec_l04Draw.f
  simp only [e1, e2, e3, e4, Option.bind_some]
  exact g1
theorem sheet_cases (a b : Int) : (∃ i j : Nat, i ≤ 3 ∧ j ≤ 3 ∧ a = ((2 ^ i : Nat) : Int) ∧ b = ((2 ^ j : Nat) : Int) ∧ spec_l04Power.f a = some ((i : Int), true) ∧ spec_l04Power.f b = some ((j : Int), true) ∧ spec_l04Sheet.f a b = some true ∧ impl_isSheet.f a b = some true ∧ Ev (fun k => impl_halvings.f k a) (i : Int) ∧ Ev (fun k => impl_halvings.f k b) (j : Int)) ∨ (spec_l04Sheet.f a b = some false ∧ impl_isSheet.f a b = some false) := by
  unfold spec_l04Sheet.f impl_isSheet.f
  rcases side_cases a with ⟨i, i1, i2, i3, i4, i5⟩ | ⟨i3, i4⟩
  · rcases side_cases b with ⟨j, j1, j2, j3, j4, j5⟩ | ⟨j3, j4⟩
    · exact .inl ⟨i, j, i1, j1, i2, j2, i3, j3, by rw [i3, j3]; rfl, by rw [i4, j4]; rfl, i5, j5⟩
    · exact .inr ⟨by rw [i3, j3]; rfl, by rw [i4, j4]; rfl⟩
  · refine .inr ⟨?_, by rw [i4]; rfl⟩
    rw [i3]
    rcases side_cases b with ⟨j, j1, j2, j3, j4, j5⟩ | ⟨j3, j4⟩
    · rw [j3]; rfl
    · rw [j3]; rfl
theorem schP_len (n a c : Nat) (d : ByteArray) (ch : UInt8) (h : ∀ a c d, (schL n a c d).length ≤ 4 ^ n) : (schP (schL n) a c d ch).length ≤ 4 ^ n := by
  have hp : 0 < 4 ^ n := Nat.pow_pos (by omega)
  unfold schP
  split
  · split
    · exact h _ _ _
    · simp
  · split
    · exact h _ _ _
    · simp
theorem schL_len : ∀ (n a c : Nat) (d : ByteArray), (schL n a c d).length ≤ 4 ^ n
  | 0, a, c, d => by simp [schL]
  | n + 1, a, c, d => by
    have h1 := schP_len n a c d 66 (schL_len n)
    have h2 := schP_len n a c d 76 (schL_len n)
    have h3 := schP_len n a c d 82 (schL_len n)
    have h4 := schP_len n a c d 84 (schL_len n)
    rw [schL, Nat.pow_succ]
    simp only [List.length_append, List.length_nil]
    omega
theorem schL_len6 {n : Nat} (h : n ≤ 6) (a c : Nat) (d : ByteArray) : (schL n a c d).length ≤ 4096 := Nat.le_trans (schL_len n a c d) (Nat.le_trans (Nat.pow_le_pow_right (by omega) h) (by decide))
theorem schP_len6 {n : Nat} (h : n ≤ 6) (a c : Nat) (d : ByteArray) (ch : UInt8) : (schP (schL n) a c d ch).length ≤ 4096 := Nat.le_trans (schP_len n a c d ch (schL_len n)) (Nat.le_trans (Nat.pow_le_pow_right (by omega) h) (by decide))
theorem schP_66 (f : Nat → Nat → ByteArray → List ByteArray) (a c : Nat) (d : ByteArray) : schP f a c d 66 = if 0 < c then f a (c - 1) (d ++ (⟨#[66]⟩ : ByteArray)) else [] := by unfold schP; simp
theorem schP_84 (f : Nat → Nat → ByteArray → List ByteArray) (a c : Nat) (d : ByteArray) : schP f a c d 84 = if 0 < c then f a (c - 1) (d ++ (⟨#[84]⟩ : ByteArray)) else [] := by unfold schP; simp
theorem schP_76 (f : Nat → Nat → ByteArray → List ByteArray) (a c : Nat) (d : ByteArray) : schP f a c d 76 = if 0 < a then f (a - 1) c (d ++ (⟨#[76]⟩ : ByteArray)) else [] := by unfold schP; simp
theorem schP_82 (f : Nat → Nat → ByteArray → List ByteArray) (a c : Nat) (d : ByteArray) : schP f a c d 82 = if 0 < a then f (a - 1) c (d ++ (⟨#[82]⟩ : ByteArray)) else [] := by unfold schP; simp
theorem size_one (d : ByteArray) (c : UInt8) : (d ++ (⟨#[c]⟩ : ByteArray)).size = d.size + 1 := by rw [ByteArray.size_append]; rfl
theorem schemes_ev : ∀ (n : Nat), n ≤ 6 → ∀ (a c : Nat) (d : ByteArray), a + c = n → d.size + n ≤ 100 → Ev (fun k => spec_l04Schemes.f k d (a : Int) (c : Int)) (schL n a c d) := by
  intro n
  induction n with
  | zero =>
    intro _ a c d h hd
    obtain rfl : a = 0 := by omega
    obtain rfl : c = 0 := by omega
    refine Ev.step (f := fun k => spec_l04Schemes.j0 k d ((0 : Nat) : Int) ((0 : Nat) : Int) (((0 : Nat) : Int) == 0)) (fun k => by rw [spec_l04Schemes.f, if_pos (by rfl)]) ?_
    exact Ev.step (f := fun _ => some [d]) (fun k => by rw [spec_l04Schemes.j0, if_pos (by rfl)]) (Ev.now _)
  | succ n ih =>
    intro hn a c d h hd
    have hz : ∀ ch : UInt8, (d ++ (⟨#[ch]⟩ : ByteArray)).size + n ≤ 100 := fun ch => by rw [size_one]; omega
    have ihc : 0 < c → ∀ ch : UInt8, Ev (fun k => spec_l04Schemes.f k (d ++ (⟨#[ch]⟩ : ByteArray)) (a : Int) (wrap64 ((c : Int) - 1))) (schL n a (c - 1) (d ++ (⟨#[ch]⟩ : ByteArray))) := fun hc ch => by
      have := ih (by omega) a (c - 1) _ (by omega) (hz ch)
      rw [w64 (by omega) (by omega), show (c : Int) - 1 = ((c - 1 : Nat) : Int) by omega]
      exact this
    have iha : 0 < a → ∀ ch : UInt8, Ev (fun k => spec_l04Schemes.f k (d ++ (⟨#[ch]⟩ : ByteArray)) (wrap64 ((a : Int) - 1)) (c : Int)) (schL n (a - 1) c (d ++ (⟨#[ch]⟩ : ByteArray))) := fun ha ch => by
      have := ih (by omega) (a - 1) c _ (by omega) (hz ch)
      rw [w64 (by omega) (by omega), show (a : Int) - 1 = ((a - 1 : Nat) : Int) by omega]
      exact this
    have l66 := schP_len6 (n := n) (by omega) a c d 66
    have l76 := schP_len6 (n := n) (by omega) a c d 76
    have l82 := schP_len6 (n := n) (by omega) a c d 82
    have l84 := schP_len6 (n := n) (by omega) a c d 84
    have j1 : ∀ x : List ByteArray, x.length ≤ 4096 → Ev (fun k => spec_l04Schemes.j1 k d (a : Int) (c : Int) x) (x ++ (schP (schL n) a c d 76 ++ (schP (schL n) a c d 82 ++ (schP (schL n) a c d 84 ++ [])))) := by
      intro x hx
      rw [List.append_nil]
      by_cases ha : 0 < a
      · rw [schP_76, if_pos ha] at l76 ⊢
        rw [schP_82, if_pos ha] at l82 ⊢
        refine Ev.step (fun k => by rw [spec_l04Schemes.j1, if_pos (by omega), if_pos (by omega)]) ?_
        refine Ev.bind (iha ha 76) ?_
        refine Ev_ite_t (by omega) ?_
        refine Ev.bind (Ev.now _) ?_
        refine Ev.bind (iha ha 82) ?_
        refine Ev_ite_t (by rw [List.length_append]; omega) ?_
        refine Ev.bind (Ev.now _) ?_
        by_cases hc : 0 < c
        · rw [schP_84, if_pos hc] at l84 ⊢
          refine Ev_ite_t (by omega) ?_
          refine Ev.bind (ihc hc 84) ?_
          refine Ev_ite_t (by rw [List.length_append, List.length_append]; omega) ?_
          rw [← List.append_assoc, ← List.append_assoc]
          exact Ev.now _
        · rw [schP_84, if_neg hc, List.append_nil, ← List.append_assoc]
          exact Ev_ite_f (by omega) (Ev.now _)
      · rw [schP_76, if_neg ha, schP_82, if_neg ha, List.nil_append, List.nil_append]
        by_cases hc : 0 < c
        · rw [schP_84, if_pos hc] at l84 ⊢
          refine Ev.step (fun k => by rw [spec_l04Schemes.j1, if_neg (by omega), if_pos (by omega), if_pos (by omega)]) ?_
          refine Ev.bind (ihc hc 84) ?_
          refine Ev_ite_t (by omega) ?_
          exact Ev.now _
        · omega
    have j0 : Ev (fun k => spec_l04Schemes.j0 k d (a : Int) (c : Int) false) (schL (n + 1) a c d) := by
      rw [schL]
      by_cases hc : 0 < c
      · rw [schP_66, if_pos hc] at l66 ⊢
        refine Ev.step (fun k => by rw [spec_l04Schemes.j0, if_neg (by simp)]) ?_
        refine Ev.bind (Ev.now _) ?_
        refine Ev_ite_t (by omega) ?_
        refine Ev_ite_t (by omega) ?_
        refine Ev.bind (ihc hc 66) ?_
        refine Ev_ite_t (by rw [List.length_nil]; omega) ?_
        rw [List.nil_append]
        exact j1 _ l66
      · rw [schP_66, if_neg hc]
        refine Ev.step (fun k => by rw [spec_l04Schemes.j0, if_neg (by simp)]) ?_
        refine Ev.bind (Ev.now _) ?_
        refine Ev_ite_f (by omega) ?_
        exact j1 [] (by simp)
    by_cases ha : (a : Int) = 0
    · refine Ev.step (f := fun k => spec_l04Schemes.j0 k d (a : Int) (c : Int) ((c : Int) == 0)) (fun k => by rw [spec_l04Schemes.f, if_pos ha]) ?_
      rw [show ((c : Int) == 0) = false from beq_false_of_ne (by omega)]
      exact j0
    · exact Ev.step (fun k => by rw [spec_l04Schemes.f, if_neg ha]) j0
theorem specAll_ev {a b : Int} {i j : Nat} (h1 : spec_l04Power.f a = some ((i : Int), true)) (h2 : spec_l04Power.f b = some ((j : Int), true)) (hi : i ≤ 3) (hj : j ≤ 3) : Ev (fun k => spec_l04All.f k a b) (schL (i + j) i j (⟨#[]⟩ : ByteArray)) := by
  unfold spec_l04All.f
  rw [h1, h2]
  exact Ev.bind (Ev.now _) (Ev.bind (Ev.now _) (Ev.bind (schemes_ev (i + j) (by omega) i j (⟨#[]⟩ : ByteArray) rfl (by show 0 + (i + j) ≤ 100; omega)) (Ev.now _)))
abbrev SL := S39
def gridL (H W : Nat) (g : Nat → Nat → List SL) : List (List (List SL)) := (List.range H).map fun y => (List.range W).map (g y)
theorem gridL_len (H W : Nat) (g : Nat → Nat → List SL) : (gridL H W g).length = H := by simp [gridL]
theorem gridL_row {H W : Nat} {g : Nat → Nat → List SL} {y : Nat} (h : y < H) : rd_L4 (gridL H W g) (y : Int) = (List.range W).map (g y) := by
  unfold rd_L4 gridL
  rw [Int.toNat_natCast, List.getD_eq_getElem?_getD, List.getElem?_map, List.getElem?_range h]
  rfl
theorem gridL_getD {H W : Nat} {g : Nat → Nat → List SL} {y : Nat} (h : y < H) : (gridL H W g).getD y [] = (List.range W).map (g y) := gridL_row (W := W) (g := g) h
theorem row_cell {W : Nat} {f : Nat → List SL} {x : Nat} (h : x < W) : rd_L3 ((List.range W).map f) (x : Int) = f x := by
  unfold rd_L3
  rw [Int.toNat_natCast, List.getD_eq_getElem?_getD, List.getElem?_map, List.getElem?_range h]
  rfl
theorem row_getD {W : Nat} {f : Nat → List SL} {x : Nat} (h : x < W) : ((List.range W).map f).getD x [] = f x := row_cell h
theorem row_len (W : Nat) (f : Nat → List SL) : ((List.range W).map f).length = W := by simp
theorem row_snoc {α : Type} (x : Nat) (f : Nat → α) : (List.range x).map f ++ [f x] = (List.range (x + 1)).map f := by rw [List.range_succ, List.map_append]; rfl
def turnL (a : Bool) (l : List SL) : List SL := l.reverse.map (spec_l04Turn.togg a)
theorem turnL_len (a : Bool) (l : List SL) : (turnL a l).length = l.length := by simp [turnL]
theorem specTurn_eq {l : List SL} (a : Bool) (h : l.length ≤ 64) : spec_l04Turn.f l a = some (turnL a l) := by unfold spec_l04Turn.f; rw [if_pos (by omega)]; rfl
theorem implFlip_eq {l : List SL} (a : Bool) (h : l.length ≤ 64) : impl_flipped.f l a = some (turnL (!a) l) := by
  unfold impl_flipped.f
  rw [if_pos (by omega)]
  have e : impl_flipped.togg a = spec_l04Turn.togg (!a) := by funext x; cases a <;> rfl
  rw [e]; rfl
def ovr (f : Bool) (h i : Nat) : Nat := if f = true then h - 1 - i else 2 * h - 1 - i
def und (f : Bool) (h i : Nat) : Nat := if f = true then h + i else i
def gAlong (f : Bool) (W : Nat) (g : Nat → Nat → List SL) : Nat → Nat → List SL := fun y x => turnL true (g y (ovr f W x)) ++ g y (und f W x)
def gAcross (f : Bool) (H : Nat) (g : Nat → Nat → List SL) : Nat → Nat → List SL := fun y x => turnL false (g (ovr f H y) x) ++ g (und f H y) x
theorem tdiv2 (h : Nat) (hh : h ≤ 100) : wrap64 (Int.tdiv ((2 * h : Nat) : Int) 2) = (h : Int) := by rw [Int.tdiv_eq_ediv_of_nonneg (by omega), w64 (by omega) (by omega)]; omega
theorem ltc {a b : Nat} (h : a < b) : (a : Int) < (b : Int) := Int.ofNat_lt.2 h
theorem nn (a : Nat) : 0 ≤ (a : Int) := Int.natCast_nonneg a
theorem nltc {a b : Nat} (h : ¬ a < b) : ¬ (a : Int) < (b : Int) := fun z => h (Int.ofNat_lt.1 z)
theorem w2a {W x : Nat} (hW : W ≤ 8) (h : x < W) : wrap64 (wrap64 ((W : Int) - 1) - (x : Int)) = ((W - 1 - x : Nat) : Int) := by rw [w64 (x := (W : Int) - 1) (by omega) (by omega), w64 (by omega) (by omega)]; omega
theorem w2b {W x : Nat} (hW : W ≤ 8) (h : x ≤ W) : wrap64 ((W : Int) + (x : Int)) = ((W + x : Nat) : Int) := by rw [w64 (by omega) (by omega)]; omega
theorem gA_t (W : Nat) (g : Nat → Nat → List SL) (y x : Nat) : gAlong true W g y x = turnL true (g y (W - 1 - x)) ++ g y (W + x) := rfl
theorem gA_f (W : Nat) (g : Nat → Nat → List SL) (y x : Nat) : gAlong false W g y x = turnL true (g y (2 * W - 1 - x)) ++ g y x := rfl
theorem sumb {a b : List SL} (t : Bool) (ha : a.length ≤ 64) (hb : b.length ≤ 64) : (turnL t a).length + b.length < 5864062014805 := by rw [turnL_len]; omega
theorem lenb {α : Type} {l : List α} (h : l.length ≤ 8) : l.length < 5864062014805 := by omega
-- one row, folded along
theorem along_in {H W : Nat} {g : Nat → Nat → List SL} (c : Int) (hW : W ≤ 4) (y : Nat) (hy : y < H) (hg : ∀ x, x < 2 * W → (g y x).length ≤ 64) (a5 : List (List (List SL))) (h5 : a5.length ≤ 8) (r : List (List (List SL)))
    (hr : Ev (fun k => spec_l04Along.l0 k (gridL H (2 * W) g) c (a5 ++ [(List.range W).map (gAlong (c == 76) W g y)]) (wrap64 ((y : Int) + 1))) r) :
    ∀ d x : Nat, x + d = W → Ev (fun k => spec_l04Along.l1 k (gridL H (2 * W) g) c a5 (y : Int) ((2 * W : Nat) : Int) ((List.range x).map (gAlong (c == 76) W g y)) (x : Int)) r := by
  have e1 := Aside0.mk (tdiv2 W (by omega))
  have hG : (y : Int) < ((gridL H (2 * W) g).length : Int) := by rw [gridL_len]; exact ltc hy
  have hR := gridL_row (H := H) (W := 2 * W) (g := g) hy
  have hc0 : ∀ i : Nat, i < 2 * W → rd_L3 ((List.range (2 * W)).map (g y)) (i : Int) = g y i := fun i hi => row_cell hi
  have hlen : ∀ i : Nat, i < 2 * W → (i : Int) < (((List.range (2 * W)).map (g y)).length : Int) := fun i hi => by rw [row_len]; exact ltc hi
  generalize gridL H (2 * W) g = G at hr hG hR ⊢
  generalize (List.range (2 * W)).map (g y) = R at hR hc0 hlen
  intro d
  induction d with
  | zero =>
    intro x hx
    obtain rfl : x = W := by omega
    have hn : ¬ (x : Int) < (x : Int) := Int.lt_irrefl _
    exact Ev.step (fun k => by rw [spec_l04Along.l1, e1.out, if_neg hn, if_pos (lenb h5)]) hr
  | succ d ih =>
    intro x hx
    have ih' := ih (x + 1) (by omega)
    have h8 : ((List.range x).map (gAlong (c == 76) W g y)).length ≤ 8 := by rw [row_len]; omega
    rw [← row_snoc, ← w64n x (by omega)] at ih'
    generalize (List.range x).map (gAlong (c == 76) W g y) = acc at ih' h8 ⊢
    clear ih hr
    have f1 : (x : Int) < (W : Int) := ltc (by omega)
    have f4 := hlen (2 * W - 1 - x) (by omega)
    have f5 := hlen x (by omega)
    have e2 := Aside0.mk (w2a (W := 2 * W) (x := x) (by omega) (by omega))
    by_cases hc : c = 76
    · rw [show (c == 76) = true by rw [hc]; rfl, gA_t] at ih'
      have f6 := hlen (W - 1 - x) (by omega)
      have f7 := hlen (W + x) (by omega)
      have l1 := hg (W - 1 - x) (by omega)
      have l2 := hg (W + x) (by omega)
      have e3 := Aside0.mk (w2a (W := W) (x := x) (by omega) (by omega))
      have e4 := Aside0.mk (w2b (W := W) (x := x) (by omega) (by omega))
      have c1 := hc0 (W - 1 - x) (by omega)
      have c2 := hc0 (W + x) (by omega)
      refine Ev.step (fun k => ?_) ih'
      rw [spec_l04Along.l1, e1.out, hR, e2.out, e3.out, e4.out, if_pos f1, if_pos (nn y), if_pos hG, if_pos (nn _), if_pos f4, if_pos (nn x), if_pos f5, if_pos hc, if_pos (nn _), if_pos f6, if_pos (nn _), if_pos f7, c1, c2, specTurn_eq true l1, Option.bind_some, if_pos (sumb true l1 l2), if_pos (lenb h8)]
    · rw [show (c == 76) = false from beq_false_of_ne hc, gA_f] at ih'
      have l1 := hg (2 * W - 1 - x) (by omega)
      have l2 := hg x (by omega)
      have c1 := hc0 (2 * W - 1 - x) (by omega)
      have c2 := hc0 x (by omega)
      refine Ev.step (fun k => ?_) ih'
      rw [spec_l04Along.l1, e1.out, hR, e2.out, if_pos f1, if_pos (nn y), if_pos hG, if_pos (nn _), if_pos f4, if_pos (nn x), if_pos f5, if_neg hc, c1, c2, specTurn_eq true l1, Option.bind_some, if_pos (sumb true l1 l2), if_pos (lenb h8)]
theorem along_ev {H W : Nat} {g : Nat → Nat → List SL} (c : Int) (hH : H ≤ 8) (hW : W ≤ 4) (hg : ∀ y x, y < H → x < 2 * W → (g y x).length ≤ 64) : Ev (fun k => spec_l04Along.f k (gridL H (2 * W) g) c) (gridL H W (gAlong (c == 76) W g)) := by
  have key : ∀ d y : Nat, y + d = H → Ev (fun k => spec_l04Along.l0 k (gridL H (2 * W) g) c ((List.range y).map fun y => (List.range W).map (gAlong (c == 76) W g y)) (y : Int)) (gridL H W (gAlong (c == 76) W g)) := by
    intro d
    induction d with
    | zero =>
      intro y hy
      obtain rfl : y = H := by omega
      have hn : ¬ (y : Int) < ((gridL y (2 * W) g).length : Int) := by rw [gridL_len]; exact Int.lt_irrefl _
      exact Ev.step (f := fun _ => some (gridL y W (gAlong (c == 76) W g))) (fun k => by rw [spec_l04Along.l0, if_neg hn]; rfl) (Ev.now _)
    | succ d ih =>
      intro y hy
      have ih' := ih (y + 1) (by omega)
      rw [← row_snoc, ← w64n y (by omega)] at ih'
      have h := along_in c hW y (show y < H by omega) (fun x hx => hg y x (by omega) hx) _ (by rw [List.length_map, List.length_range]; omega) _ ih' W 0 (by omega)
      have hG : (y : Int) < ((gridL H (2 * W) g).length : Int) := by rw [gridL_len]; exact ltc (by omega)
      have hR : ((rd_L4 (gridL H (2 * W) g) (y : Int)).length : Int) = ((2 * W : Nat) : Int) := by rw [gridL_row (by omega), row_len]
      refine Ev.step (fun k => ?_) h
      rw [spec_l04Along.l0, if_pos hG, if_pos (nn y), hR]
      rfl
  exact key H 0 (by omega)
-- folded across
theorem across_in {G : List (List (List SL))} {W : Nat} (c : Int) (hW : W ≤ 8) (fo fu : Nat → List SL) (hg : ∀ x, x < W → (fo x).length ≤ 64 ∧ (fu x).length ≤ 64) (a6 : List (List (List SL))) (h6 : a6.length ≤ 8) (y : Nat) (n : Int) (r : List (List (List SL)))
    (hr : Ev (fun k => spec_l04Across.l0 k G c n (a6 ++ [(List.range W).map fun x => turnL false (fo x) ++ fu x]) (wrap64 ((y : Int) + 1))) r) :
    ∀ d x : Nat, x + d = W → Ev (fun k => spec_l04Across.l1 k G c n a6 (y : Int) ((List.range W).map fo) ((List.range W).map fu) ((List.range x).map fun x => turnL false (fo x) ++ fu x) (x : Int)) r ∧ Ev (fun k => spec_l04Across.l101 k G c n a6 (y : Int) ((List.range W).map fo) ((List.range W).map fu) ((List.range x).map fun x => turnL false (fo x) ++ fu x) (x : Int)) r := by
  have hO : ∀ i : Nat, i < W → (i : Int) < (((List.range W).map fo).length : Int) := fun i hi => by rw [row_len]; exact ltc hi
  have hU : ∀ i : Nat, i < W → (i : Int) < (((List.range W).map fu).length : Int) := fun i hi => by rw [row_len]; exact ltc hi
  have hN : ¬ (W : Int) < (((List.range W).map fo).length : Int) := by rw [row_len]; exact Int.lt_irrefl _
  have cO : ∀ i : Nat, i < W → rd_L3 ((List.range W).map fo) (i : Int) = fo i := fun i hi => row_cell hi
  have cU : ∀ i : Nat, i < W → rd_L3 ((List.range W).map fu) (i : Int) = fu i := fun i hi => row_cell hi
  generalize (List.range W).map fo = RO at hO hN cO ⊢
  generalize (List.range W).map fu = RU at hU cU ⊢
  intro d
  induction d with
  | zero =>
    intro x hx
    obtain rfl : x = W := by omega
    exact ⟨Ev.step (fun k => by rw [spec_l04Across.l1, if_neg hN, if_pos (lenb h6)]) hr, Ev.step (fun k => by rw [spec_l04Across.l101, if_neg hN, if_pos (lenb h6)]) hr⟩
  | succ d ih =>
    intro x hx
    obtain ⟨i1, i2⟩ := ih (x + 1) (by omega)
    have h10 : ((List.range x).map fun x => turnL false (fo x) ++ fu x).length ≤ 8 := by rw [List.length_map, List.length_range]; omega
    rw [← row_snoc, ← w64n x (by omega)] at i1 i2
    obtain ⟨l1, l2⟩ := hg x (by omega)
    have f1 := hO x (by omega)
    have f2 := hU x (by omega)
    have c1 := cO x (by omega)
    have c2 := cU x (by omega)
    generalize ((List.range x).map fun x => turnL false (fo x) ++ fu x) = acc at i1 i2 h10 ⊢
    clear ih hr
    constructor
    · refine Ev.step (fun k => ?_) i1
      rw [spec_l04Across.l1, if_pos f1, if_pos (nn x), c1, c2, specTurn_eq false l1, Option.bind_some, if_pos f2, if_pos (sumb false l1 l2), if_pos (lenb h10)]
    · refine Ev.step (fun k => ?_) i2
      rw [spec_l04Across.l101, if_pos f1, if_pos (nn x), c1, c2, specTurn_eq false l1, Option.bind_some, if_pos f2, if_pos (sumb false l1 l2), if_pos (lenb h10)]
theorem across_ev {H W : Nat} {g : Nat → Nat → List SL} (c : Int) (hH : H ≤ 4) (hW : W ≤ 8) (hg : ∀ y x, y < 2 * H → x < W → (g y x).length ≤ 64) : Ev (fun k => spec_l04Across.f k (gridL (2 * H) W g) c) (gridL H W (gAcross (c == 84) H g)) := by
  have e1 := Aside0.mk (tdiv2 H (by omega))
  have hlen : ∀ i : Nat, i < 2 * H → (i : Int) < ((gridL (2 * H) W g).length : Int) := fun i hi => by rw [gridL_len]; exact ltc hi
  have hrow : ∀ i : Nat, i < 2 * H → rd_L4 (gridL (2 * H) W g) (i : Int) = (List.range W).map (g i) := fun i hi => gridL_row hi
  have hL : ((gridL (2 * H) W g).length : Int) = ((2 * H : Nat) : Int) := by rw [gridL_len]
  have key : ∀ d y : Nat, y + d = H → Ev (fun k => spec_l04Across.l0 k (gridL (2 * H) W g) c ((2 * H : Nat) : Int) ((List.range y).map fun y => (List.range W).map (gAcross (c == 84) H g y)) (y : Int)) (gridL H W (gAcross (c == 84) H g)) := by
    generalize gridL (2 * H) W g = G at hlen hrow
    intro d
    induction d with
    | zero =>
      intro y hy
      obtain rfl : y = H := by omega
      have hn : ¬ (y : Int) < (y : Int) := Int.lt_irrefl _
      exact Ev.step (f := fun _ => some (gridL y W (gAcross (c == 84) y g))) (fun k => by rw [spec_l04Across.l0, e1.out, if_neg hn]; rfl) (Ev.now _)
    | succ d ih =>
      intro y hy
      have ih' := ih (y + 1) (by omega)
      rw [← row_snoc, ← w64n y (by omega)] at ih'
      have h6 : ((List.range y).map fun y => (List.range W).map (gAcross (c == 84) H g y)).length ≤ 8 := by rw [List.length_map, List.length_range]; omega
      generalize ((List.range y).map fun y => (List.range W).map (gAcross (c == 84) H g y)) = acc at ih' h6 ⊢
      have e2 := Aside0.mk (w2a (W := 2 * H) (x := y) (by omega) (by omega))
      have f1 : (y : Int) < (H : Int) := ltc (by omega)
      have f2 := hlen (2 * H - 1 - y) (by omega)
      have f3 := hlen y (by omega)
      clear ih
      by_cases hc : c = 84
      · have hcb : (c == 84) = true := by rw [hc]; rfl
        rw [hcb] at ih' ⊢
        have e3 := Aside0.mk (w2a (W := H) (x := y) (by omega) (by omega))
        have e4 := Aside0.mk (w2b (W := H) (x := y) (by omega) (by omega))
        have f4 := hlen (H - 1 - y) (by omega)
        have f5 := hlen (H + y) (by omega)
        have r1 := hrow (H - 1 - y) (by omega)
        have r2 := hrow (H + y) (by omega)
        have h := (across_in (G := G) c hW (g (H - 1 - y)) (g (H + y)) (fun x hx => ⟨hg _ x (by omega) hx, hg _ x (by omega) hx⟩) acc h6 y _ _ ih' W 0 (by omega)).1
        refine Ev.step (fun k => ?_) h
        rw [spec_l04Across.l0, e1.out, e2.out, e3.out, e4.out, if_pos f1, if_pos (nn _), if_pos f2, if_pos (nn y), if_pos f3, if_pos hc, if_pos (nn _), if_pos f4, if_pos (nn _), if_pos f5, r1, r2]
        rfl
      · have hcb : (c == 84) = false := beq_false_of_ne hc
        rw [hcb] at ih' ⊢
        have r1 := hrow (2 * H - 1 - y) (by omega)
        have r2 := hrow y (by omega)
        have h := (across_in (G := G) c hW (g (2 * H - 1 - y)) (g y) (fun x hx => ⟨hg _ x (by omega) hx, hg _ x (by omega) hx⟩) acc h6 y _ _ ih' W 0 (by omega)).2
        refine Ev.step (fun k => ?_) h
        rw [spec_l04Across.l0, e1.out, e2.out, if_pos f1, if_pos (nn _), if_pos f2, if_pos (nn y), if_pos f3, if_neg hc, r1, r2]
        rfl
  have hk := key H 0 (by omega)
  unfold spec_l04Across.f
  rw [hL]
  exact hk
def isF (s : ByteArray) : Bool := decide ((∀ i : Nat, i < s.size → bt s (i : Int) = 76 ∨ bt s (i : Int) = 82) ∧ s.size ≤ 6)
theorem bt_list (s : ByteArray) (i : Nat) (h : i < s.size) : bt s (i : Int) = ((s.data.toList[i]'(by simpa using h)).toNat : Int) := by
  unfold bt
  rw [dif_pos (by rw [Int.toNat_natCast]; exact h)]
  simp [ByteArray.getElem_eq_getElem_data]
def lrc (l : List UInt8) : Nat := List.count 76 l + List.count 82 l
theorem lrc_cons (c : UInt8) (t : List UInt8) : lrc (c :: t) = lrc t + (if c = 76 ∨ c = 82 then 1 else 0) := by
  unfold lrc
  rw [List.count_cons, List.count_cons]
  by_cases h1 : c = 76
  · subst h1; simp; omega
  · by_cases h2 : c = 82
    · subst h2; simp; omega
    · simp [h1, h2]
theorem lrc_le (l : List UInt8) : lrc l ≤ l.length := by
  induction l with
  | nil => decide
  | cons c t ih => rw [lrc_cons, List.length_cons]; split <;> omega
theorem byte_eq (c : UInt8) (n : Nat) (hn : n < 256) : ((c.toNat : Int) = (n : Int)) ↔ c = UInt8.ofNat n := by
  have e : (UInt8.ofNat n).toNat = n := (show (UInt8.ofNat n).toNat = n % 256 from rfl).trans (Nat.mod_eq_of_lt hn)
  constructor
  · intro h
    apply UInt8.toNat_inj.1
    rw [e]
    omega
  · rintro rfl
    rw [e]
def pairC (b c : List SL) : List (List SL) := [b, c]
theorem concat_ev {b c : List SL} (hb : b.length ≤ 64) (hc : c.length ≤ 64) : Ev (fun k => impl_Leaf_99.f k [b, c]) (b ++ c) := by
  have r0 : rd_L3 [b, c] 0 = b := rfl
  have r1 : rd_L3 [b, c] 1 = c := rfl
  have l2 : (([b, c] : List (List SL)).length : Int) = 2 := rfl
  have g0 : (0 : Int) < (([b, c] : List (List SL)).length : Int) := by rw [l2]; omega
  have g1 : (1 : Int) < (([b, c] : List (List SL)).length : Int) := by rw [l2]; omega
  have w1 : wrap64 (0 + 1) = 1 := by rw [w64 (by omega) (by omega)]; rfl
  have w2 : wrap64 (1 + 1) = 2 := by rw [w64 (by omega) (by omega)]; rfl
  have s1 : wrap64 (0 + (b.length : Int)) = (b.length : Int) := by rw [w64 (by omega) (by omega)]; omega
  have s2 : wrap64 ((b.length : Int) + (c.length : Int)) = ((b.length + c.length : Nat) : Int) := by rw [w64 (by omega) (by omega)]; omega
  have hg : impl_Leaf_108.f ([] : List SL) ((b.length + c.length : Nat) : Int) = some [] := by
    unfold impl_Leaf_108.f
    rw [if_pos rfl, if_pos (nn _), if_pos (by omega)]
  have a1 : ([] : List SL).length + b.length < 5864062014805 := by rw [List.length_nil]; omega
  have a2 : b.length + c.length < 5864062014805 := by omega
  generalize ([b, c] : List (List SL)) = G at r0 r1 l2 g0 g1
  refine Ev.step (f := fun k => impl_Leaf_99.l0 k G (b.length : Int) G 2 1) (fun k => ?_) ?_
  · show impl_Leaf_99.l0 (k + 1) G 0 G (G.length : Int) 0 = _
    rw [l2, impl_Leaf_99.l0, r0, s1, w1, if_pos (by decide), if_pos (by decide), if_pos g0, if_neg (by omega)]
  refine Ev.step (f := fun k => impl_Leaf_99.l0 k G ((b.length + c.length : Nat) : Int) G 2 2) (fun k => ?_) ?_
  · rw [impl_Leaf_99.l0, r1, s2, w2, if_pos (by decide), if_pos (by decide), if_pos g1, if_neg (by omega)]
  refine Ev.step (f := fun k => impl_Leaf_99.l1 k [] G 2 0) (fun k => ?_) ?_
  · rw [impl_Leaf_99.l0, if_neg (by decide), hg, l2]; rfl
  refine Ev.step (f := fun k => impl_Leaf_99.l1 k b G 2 1) (fun k => ?_) ?_
  · rw [impl_Leaf_99.l1, r0, w1, if_pos (by decide), if_pos (by decide), if_pos g0, if_pos a1, List.nil_append]
  refine Ev.step (f := fun k => impl_Leaf_99.l1 k (b ++ c) G 2 2) (fun k => ?_) ?_
  · rw [impl_Leaf_99.l1, r1, w2, if_pos (by decide), if_pos (by decide), if_pos g1, if_pos a2]
  exact Ev.step (f := fun _ => some (b ++ c)) (fun k => by rw [impl_Leaf_99.l1, if_neg (by decide)]) (Ev.now _)
theorem hvrow_ev {c : Nat → Nat → Option (List SL)} {f : Nat → List SL} : ∀ (n x : Nat), (∀ i, x ≤ i → i < x + n → Ev (fun k => c k i) (f i)) → Ev (fun k => hv_row (c k) n x ((List.range x).map f)) ((List.range (x + n)).map f)
  | 0, x, _ => Ev.now _
  | n + 1, x, h => by
    refine Ev.bind (h x (by omega) (by omega)) ?_
    have := hvrow_ev (c := c) (f := f) n (x + 1) (fun i h1 h2 => h i (by omega) (by omega))
    rw [row_snoc, show x + (n + 1) = x + 1 + n by omega]
    exact this
theorem hvrows_ev {c : Nat → Nat → Option (List (List SL))} {f : Nat → List (List SL)} : ∀ (n x : Nat), (∀ i, x ≤ i → i < x + n → Ev (fun k => c k i) (f i)) → Ev (fun k => hv_rows (c k) n x ((List.range x).map f)) ((List.range (x + n)).map f)
  | 0, x, _ => Ev.now _
  | n + 1, x, h => by
    refine Ev.bind (h x (by omega) (by omega)) ?_
    have := hvrows_ev (c := c) (f := f) n (x + 1) (fun i h1 h2 => h i (by omega) (by omega))
    rw [row_snoc, show x + (n + 1) = x + 1 + n by omega]
    exact this
theorem hvat_eq {H W : Nat} {g : Nat → Nat → List SL} (a : Bool) (h w x y : Nat) (s o : Bool) {Y X : Nat} (hY : (if a = true then hv_pos h y s o else y) = Y) (hX : (if a = true then x else hv_pos w x s o) = X) (h1 : Y < H) (h2 : X < W) : hv_at (gridL H W g) a h w x y s o = some (g Y X) := by
  unfold hv_at
  rw [hY, hX, if_pos (by rw [gridL_len]; exact h1), gridL_getD h1, if_pos (by rw [row_len]; exact h2), row_getD h2]
theorem halved_along {H W : Nat} {g : Nat → Nat → List SL} (f : Bool) (hH : 0 < H ∧ H ≤ 8) (hW : W ≤ 4) (hg : ∀ y x, y < H → x < 2 * W → (g y x).length ≤ 64) : Ev (fun k => impl_halved.f k (gridL H (2 * W) g) false f) (gridL H W (gAlong f W g)) := by
  have hl : ((gridL H (2 * W) g).getD 0 []).length = 2 * W := by rw [gridL_getD hH.1, row_len]
  have hc : 0 < (gridL H (2 * W) g).length ∧ (gridL H (2 * W) g).length ≤ 1000 ∧ ((gridL H (2 * W) g).getD 0 []).length ≤ 1000 := by rw [gridL_len, hl]; omega
  unfold impl_halved.f
  refine Ev_ite_t hc ?_
  rw [hl, gridL_len, show hvH false H = H from rfl, show hvW false (2 * W) = W from by unfold hvW; simp]
  have key := hvrows_ev (c := fun k y => hv_row (fun x => hv_cell k (gridL H (2 * W) g) false f H W y x) W 0 []) (f := fun y => (List.range W).map (gAlong f W g y)) H 0 (fun y _ hy => by
    have hr := hvrow_ev (c := fun k x => hv_cell k (gridL H (2 * W) g) false f H W y x) (f := gAlong f W g y) W 0 (fun x _ hx => by
      have b1 := hg y (ovr f W x) (by omega) (by unfold ovr; split <;> omega)
      have b2 := hg y (und f W x) (by omega) (by unfold und; split <;> omega)
      unfold hv_cell
      rw [hvat_eq (H := H) (W := 2 * W) (g := g) false H W x y (!f) true (Y := y) (X := ovr f W x) rfl (by cases f <;> simp [hv_pos, ovr] <;> omega) (by omega) (by unfold ovr; split <;> omega),
        hvat_eq (H := H) (W := 2 * W) (g := g) false H W x y f false (Y := y) (X := und f W x) rfl (by cases f <;> simp [hv_pos, und] <;> omega) (by omega) (by unfold und; split <;> omega)]
      simp only [Option.bind_some]
      rw [implFlip_eq false b1]
      simp only [Option.bind_some]
      exact concat_ev (by rw [turnL_len]; exact b1) b2)
    rw [Nat.zero_add] at hr
    exact hr)
  rw [Nat.zero_add] at key
  exact key
theorem halved_across {H W : Nat} {g : Nat → Nat → List SL} (f : Bool) (hH : 0 < H ∧ H ≤ 4) (hW : W ≤ 8) (hg : ∀ y x, y < 2 * H → x < W → (g y x).length ≤ 64) : Ev (fun k => impl_halved.f k (gridL (2 * H) W g) true f) (gridL H W (gAcross f H g)) := by
  have hl : ((gridL (2 * H) W g).getD 0 []).length = W := by rw [gridL_getD (by omega), row_len]
  have hc : 0 < (gridL (2 * H) W g).length ∧ (gridL (2 * H) W g).length ≤ 1000 ∧ ((gridL (2 * H) W g).getD 0 []).length ≤ 1000 := by rw [gridL_len, hl]; omega
  unfold impl_halved.f
  refine Ev_ite_t hc ?_
  rw [hl, gridL_len, show hvW true W = W from rfl, show hvH true (2 * H) = H from by unfold hvH; simp]
  have key := hvrows_ev (c := fun k y => hv_row (fun x => hv_cell k (gridL (2 * H) W g) true f H W y x) W 0 []) (f := fun y => (List.range W).map (gAcross f H g y)) H 0 (fun y _ hy => by
    have hr := hvrow_ev (c := fun k x => hv_cell k (gridL (2 * H) W g) true f H W y x) (f := gAcross f H g y) W 0 (fun x _ hx => by
      have b1 := hg (ovr f H y) x (by unfold ovr; split <;> omega) (by omega)
      have b2 := hg (und f H y) x (by unfold und; split <;> omega) (by omega)
      unfold hv_cell
      rw [hvat_eq (H := 2 * H) (W := W) (g := g) true H W x y (!f) true (Y := ovr f H y) (X := x) (by cases f <;> simp [hv_pos, ovr] <;> omega) rfl (by unfold ovr; split <;> omega) (by omega),
        hvat_eq (H := 2 * H) (W := W) (g := g) true H W x y f false (Y := und f H y) (X := x) (by cases f <;> simp [hv_pos, und] <;> omega) rfl (by unfold und; split <;> omega) (by omega)]
      simp only [Option.bind_some]
      rw [implFlip_eq true b1]
      simp only [Option.bind_some]
      exact concat_ev (by rw [turnL_len]; exact b1) b2)
    rw [Nat.zero_add] at hr
    exact hr)
  rw [Nat.zero_add] at key
  exact key
def gfold : List UInt8 → Nat → Nat → (Nat → Nat → List SL) → List SL
  | [], _, _, g => g 0 0
  | c :: t, H, W, g => if c = 76 ∨ c = 82 then gfold t H (W / 2) (gAlong (c == 76) (W / 2) g) else gfold t (H / 2) W (gAcross (c == 84) (H / 2) g)
def g0 : Nat → Nat → List SL := fun y x => [⟨(x : Int), (y : Int), false, false⟩]
-- the sheet before any fold
theorem specStart_ev {H W : Nat} (hH : H ≤ 8) (hW : W ≤ 8) : Ev (fun k => spec_l04Start.f k (W : Int) (H : Int)) (gridL H W g0) := by
  have hin : ∀ (y : Nat) (a5 : List (List (List SL))) (r : List (List (List SL))), a5.length ≤ 8 → Ev (fun k => spec_l04Start.l0 k (W : Int) (H : Int) (a5 ++ [(List.range W).map (g0 y)]) (wrap64 ((y : Int) + 1))) r → ∀ d x : Nat, x + d = W → Ev (fun k => spec_l04Start.l1 k (W : Int) (H : Int) a5 (y : Int) ((List.range x).map (g0 y)) (x : Int)) r := by
    intro y a5 r h5 hr d
    induction d with
    | zero =>
      intro x hx
      obtain rfl : x = W := by omega
      have hn : ¬ (x : Int) < (x : Int) := Int.lt_irrefl _
      exact Ev.step (fun k => by rw [spec_l04Start.l1, if_neg hn, if_pos (lenb h5)]) hr
    | succ d ih =>
      intro x hx
      have ih' := ih (x + 1) (by omega)
      have h8 : ((List.range x).map (g0 y)).length ≤ 8 := by rw [row_len]; omega
      have f1 : (x : Int) < (W : Int) := ltc (by omega)
      rw [← row_snoc, ← w64n x (by omega)] at ih'
      exact Ev.step (fun k => by rw [spec_l04Start.l1, if_pos f1, if_pos (lenb h8)]; rfl) ih'
  have key : ∀ d y : Nat, y + d = H → Ev (fun k => spec_l04Start.l0 k (W : Int) (H : Int) ((List.range y).map fun y => (List.range W).map (g0 y)) (y : Int)) (gridL H W g0) := by
    intro d
    induction d with
    | zero =>
      intro y hy
      obtain rfl : y = H := by omega
      have hn : ¬ (y : Int) < (y : Int) := Int.lt_irrefl _
      exact Ev.step (f := fun _ => some (gridL y W g0)) (fun k => by rw [spec_l04Start.l0, if_neg hn]; rfl) (Ev.now _)
    | succ d ih =>
      intro y hy
      have ih' := ih (y + 1) (by omega)
      rw [← row_snoc, ← w64n y (by omega)] at ih'
      have f1 : (y : Int) < (H : Int) := ltc (by omega)
      have h := hin y _ _ (by rw [List.length_map, List.length_range]; omega) ih' W 0 (by omega)
      exact Ev.step (fun k => by rw [spec_l04Start.l0, if_pos f1]; rfl) h
  exact key H 0 (by omega)
theorem implStart_ev {H W : Nat} (s : ByteArray) (hH : H ≤ 8) (hW : W ≤ 8) (r : List SL) (hr : Ev (fun k => impl_foldSheet.l2 k s (gridL H W g0) (s.size : Int) 0) r) : Ev (fun k => impl_foldSheet.f k (W : Int) (H : Int) s) r := by
  have hin : ∀ (y : Nat) (a5 : List (List (List SL))) (r : List SL), a5.length ≤ 8 → Ev (fun k => impl_foldSheet.l0 k (W : Int) s (a5 ++ [(List.range W).map (g0 y)]) (H : Int) (wrap64 ((y : Int) + 1))) r → ∀ d x : Nat, x + d = W → Ev (fun k => impl_foldSheet.l1 k (W : Int) s a5 (y : Int) ((List.range x).map (g0 y)) (H : Int) (y : Int) (W : Int) (x : Int)) r := by
    intro y a5 r h5 hr d
    induction d with
    | zero =>
      intro x hx
      obtain rfl : x = W := by omega
      have hn : ¬ (x : Int) < (x : Int) := Int.lt_irrefl _
      exact Ev.step (fun k => by rw [impl_foldSheet.l1, if_neg hn, if_pos (lenb h5)]) hr
    | succ d ih =>
      intro x hx
      have ih' := ih (x + 1) (by omega)
      have h8 : ((List.range x).map (g0 y)).length ≤ 8 := by rw [row_len]; omega
      have f1 : (x : Int) < (W : Int) := ltc (by omega)
      rw [← row_snoc, ← w64n x (by omega)] at ih'
      exact Ev.step (fun k => by rw [impl_foldSheet.l1, if_pos f1, if_pos (lenb h8)]; rfl) ih'
  have key : ∀ d y : Nat, y + d = H → Ev (fun k => impl_foldSheet.l0 k (W : Int) s ((List.range y).map fun y => (List.range W).map (g0 y)) (H : Int) (y : Int)) r := by
    intro d
    induction d with
    | zero =>
      intro y hy
      obtain rfl : y = H := by omega
      have hn : ¬ (y : Int) < (y : Int) := Int.lt_irrefl _
      exact Ev.step (fun k => by rw [impl_foldSheet.l0, if_neg hn]; rfl) hr
    | succ d ih =>
      intro y hy
      have ih' := ih (y + 1) (by omega)
      rw [← row_snoc, ← w64n y (by omega)] at ih'
      have f1 : (y : Int) < (H : Int) := ltc (by omega)
      have h := hin y _ _ (by rw [List.length_map, List.length_range]; omega) ih' W 0 (by omega)
      exact Ev.step (fun k => by rw [impl_foldSheet.l0, if_pos f1]; rfl) h
  exact key H 0 (by omega)
theorem leaves_stepA {s : ByteArray} {pos : Nat} {G G' : List (List (List SL))} {r : List SL} (hp : pos < s.size) (hp2 : pos < 1000) (hb : bt s (pos : Int) = 76 ∨ bt s (pos : Int) = 82) (h1 : Ev (fun k => spec_l04Along.f k G (bt s (pos : Int))) G') (h2 : Ev (fun k => spec_l04Leaves.l0 k s G' ((pos + 1 : Nat) : Int)) r) : Ev (fun k => spec_l04Leaves.l0 k s G (pos : Int)) r := by
  have f1 : (pos : Int) < (s.size : Int) := ltc hp
  refine Ev.step (f := fun k => spec_l04Leaves.j1 k s G (pos : Int) true) (fun k => ?_) ?_
  · rw [spec_l04Leaves.l0, if_pos f1, if_pos (nn _)]
    rcases hb with hb | hb
    · rw [if_pos hb]
    · rw [if_neg (by rw [hb]; decide), hb]; rfl
  · refine Ev.step (fun k => by rw [spec_l04Leaves.j1, if_pos rfl, if_pos (nn _), if_pos f1, w64n pos (by omega)]) ?_
    exact Ev.bind h1 h2
theorem leaves_stepB {s : ByteArray} {pos : Nat} {G G' : List (List (List SL))} {r : List SL} (hp : pos < s.size) (hp2 : pos < 1000) (hb : bt s (pos : Int) = 84 ∨ bt s (pos : Int) = 66) (h1 : Ev (fun k => spec_l04Across.f k G (bt s (pos : Int))) G') (h2 : Ev (fun k => spec_l04Leaves.l0 k s G' ((pos + 1 : Nat) : Int)) r) : Ev (fun k => spec_l04Leaves.l0 k s G (pos : Int)) r := by
  have f1 : (pos : Int) < (s.size : Int) := ltc hp
  refine Ev.step (f := fun k => spec_l04Leaves.j1 k s G (pos : Int) false) (fun k => ?_) ?_
  · rw [spec_l04Leaves.l0, if_pos f1, if_pos (nn _)]
    rcases hb with hb | hb
    · rw [if_neg (by rw [hb]; decide), hb]; rfl
    · rw [if_neg (by rw [hb]; decide), hb]; rfl
  · refine Ev.step (fun k => by rw [spec_l04Leaves.j1, if_neg (by simp), if_pos (nn _), if_pos f1, w64n pos (by omega)]) ?_
    exact Ev.bind h1 h2
theorem ifold_step {s : ByteArray} {pos : Nat} {G G' : List (List (List SL))} {r : List SL} (a f : Bool) (hp : pos < s.size) (hp2 : pos < 1000) (hb : (bt s (pos : Int) = 84 ∧ a = true ∧ f = true) ∨ (bt s (pos : Int) = 76 ∧ a = false ∧ f = true) ∨ (bt s (pos : Int) = 82 ∧ a = false ∧ f = false) ∨ (bt s (pos : Int) = 66 ∧ a = true ∧ f = false)) (h1 : Ev (fun k => impl_halved.f k G a f) G') (h2 : Ev (fun k => impl_foldSheet.l2 k s G' (s.size : Int) ((pos + 1 : Nat) : Int)) r) : Ev (fun k => impl_foldSheet.l2 k s G (s.size : Int) (pos : Int)) r := by
  have f1 : (pos : Int) < (s.size : Int) := ltc hp
  have e1 := w64n pos (by omega)
  refine Ev.step (f := fun k => (impl_halved.f k G a f).bind fun t => impl_foldSheet.l2 k s t (s.size : Int) ((pos + 1 : Nat) : Int)) (fun k => ?_) (Ev.bind h1 h2)
  rw [impl_foldSheet.l2, if_pos f1, if_pos (nn _), if_pos f1, e1]
  rcases hb with ⟨hb, rfl, rfl⟩ | ⟨hb, rfl, rfl⟩ | ⟨hb, rfl, rfl⟩ | ⟨hb, rfl, rfl⟩
  · rw [hb, if_pos rfl, if_neg (by decide)]; rfl
  · rw [hb, if_neg (by decide), if_pos rfl]; rfl
  · rw [hb, if_neg (by decide), if_neg (by decide)]; rfl
  · rw [hb, if_neg (by decide), if_neg (by decide)]; rfl
theorem lrc_zero {t : List UInt8} (h : t = []) : lrc t = 0 := by subst h; rfl
theorem p2le {i n : Nat} (h : i ≤ n) : 2 ^ i ≤ 2 ^ n := Nat.pow_le_pow_right (by omega) h
theorem leaves_loop (s : ByteArray) (hs : s.size ≤ 6) : ∀ (d pos i j C : Nat) (g : Nat → Nat → List SL), pos + d = s.size → (∀ x ∈ s.data.toList.drop pos, ([76, 82, 84, 66] : List UInt8).contains x = true) → lrc (s.data.toList.drop pos) = i → d = i + j → i ≤ 3 → j ≤ 3 → (∀ y x, y < 2 ^ j → x < 2 ^ i → (g y x).length = C) → C * 2 ^ d ≤ 64 →
    Ev (fun k => spec_l04Leaves.l0 k s (gridL (2 ^ j) (2 ^ i) g) (pos : Int)) (gfold (s.data.toList.drop pos) (2 ^ j) (2 ^ i) g) ∧ Ev (fun k => impl_foldSheet.l2 k s (gridL (2 ^ j) (2 ^ i) g) (s.size : Int) (pos : Int)) (gfold (s.data.toList.drop pos) (2 ^ j) (2 ^ i) g) ∧ (gfold (s.data.toList.drop pos) (2 ^ j) (2 ^ i) g).length = C * 2 ^ d := by
  have hz : s.size = s.data.toList.length := by simp
  intro d
  induction d with
  | zero =>
    intro pos i j C g hp hall hl hd hi hj hC h64
    obtain rfl : i = 0 := by omega
    obtain rfl : j = 0 := by omega
    rw [List.drop_of_length_le (by omega), gfold]
    have n1 : ¬ (pos : Int) < (s.size : Int) := nltc (by omega)
    have a1 : (0 : Int) < ((gridL (2 ^ 0) (2 ^ 0) g).length : Int) := by rw [gridL_len]; decide
    have a2 : rd_L4 (gridL (2 ^ 0) (2 ^ 0) g) 0 = [g 0 0] := rfl
    have a3 : rd_L3 [g 0 0] 0 = g 0 0 := rfl
    have a4 : (0 : Int) < (([g 0 0] : List (List SL)).length : Int) := by show (0 : Int) < 1; decide
    refine ⟨Ev.step (f := fun _ => some (g 0 0)) (fun k => ?_) (Ev.now _), Ev.step (f := fun _ => some (g 0 0)) (fun k => ?_) (Ev.now _), by rw [hC 0 0 (by decide) (by decide)]; omega⟩
    · rw [spec_l04Leaves.l0, if_neg n1, if_pos a1, a2, if_pos a4, a3]
    · rw [impl_foldSheet.l2, if_neg n1, if_pos a1, a2, if_pos a4, a3]
  | succ d ih =>
    intro pos i j C g hp hall hl hd hi hj hC h64
    have hil : pos < s.data.toList.length := by omega
    have hdr := List.drop_eq_getElem_cons hil
    have hb := bt_list s pos (by omega)
    rw [hdr] at hall hl ⊢
    have hc := hall _ List.mem_cons_self
    have hall' := fun x hx => hall x (List.mem_cons_of_mem _ hx)
    rw [lrc_cons] at hl
    generalize s.data.toList[pos] = c at hb hc hl ⊢
    have hCle : C ≤ 32 := by
      have h1 : 1 ≤ 2 ^ d := Nat.one_le_two_pow
      rw [Nat.pow_succ] at h64
      have h2 : C * 2 ≤ C * (2 ^ d * 2) := Nat.mul_le_mul_left _ (by omega)
      omega
    have h64' : (C + C) * 2 ^ d ≤ 64 := by rw [Nat.pow_succ] at h64; rw [Nat.add_mul, ← Nat.two_mul, ← Nat.mul_assoc, Nat.mul_comm 2 C, Nat.mul_assoc, Nat.mul_comm 2]; exact h64
    have hlen' : (C + C) * 2 ^ d = C * 2 ^ (d + 1) := by rw [Nat.pow_succ, Nat.add_mul, ← Nat.two_mul, ← Nat.mul_assoc, Nat.mul_comm 2 C, Nat.mul_assoc, Nat.mul_comm 2]
    by_cases h1 : c = 76 ∨ c = 82
    · rw [if_pos h1] at hl
      obtain ⟨i, rfl⟩ : ∃ q, i = q + 1 := ⟨i - 1, by omega⟩
      have hW : 2 ^ (i + 1) = 2 * 2 ^ i := by rw [Nat.pow_succ, Nat.mul_comm]
      have hW4 : 2 ^ i ≤ 4 := p2le (n := 2) (by omega)
      have hH8 : 2 ^ j ≤ 8 := p2le (n := 3) hj
      have hH0 : 0 < 2 ^ j := Nat.pow_pos (by omega)
      rw [gfold, if_pos h1, hW, Nat.mul_div_cancel_left _ (by omega : 0 < 2)]
      have hg : ∀ y x, y < 2 ^ j → x < 2 * 2 ^ i → (g y x).length ≤ 64 := fun y x hy hx => by rw [hC y x hy (by rw [hW]; exact hx)]; omega
      have hC' : ∀ y x, y < 2 ^ j → x < 2 ^ i → (gAlong (c == 76) (2 ^ i) g y x).length = C + C := fun y x hy hx => by
        unfold gAlong
        rw [List.length_append, turnL_len, hC y _ hy (by rw [hW]; unfold ovr; split <;> omega), hC y _ hy (by rw [hW]; unfold und; split <;> omega)]
      obtain ⟨j1, j2, j3⟩ := ih (pos + 1) i j (C + C) (gAlong (c == 76) (2 ^ i) g) (by omega) hall' (by omega) (by omega) (by omega) hj hC' h64'
      have a1 := along_ev (bt s (pos : Int)) hH8 hW4 hg
      have a2 := halved_along (c == 76) ⟨hH0, hH8⟩ hW4 hg
      rcases h1 with rfl | rfl
      · have hb' : bt s (pos : Int) = 76 := hb
        refine ⟨leaves_stepA (by omega) (by omega) (.inl hb') a1 ?_, ifold_step false true (by omega) (by omega) (.inr (.inl ⟨hb', rfl, rfl⟩)) a2 j2, j3.trans hlen'⟩
        rw [hb']; exact j1
      · have hb' : bt s (pos : Int) = 82 := hb
        refine ⟨leaves_stepA (by omega) (by omega) (.inr hb') a1 ?_, ifold_step false false (by omega) (by omega) (.inr (.inr (.inl ⟨hb', rfl, rfl⟩))) a2 j2, j3.trans hlen'⟩
        rw [hb']; exact j1
    · rw [if_neg h1] at hl
      have hdj : lrc (s.data.toList.drop (pos + 1)) ≤ d := by
        have := lrc_le (s.data.toList.drop (pos + 1))
        rw [List.length_drop] at this
        omega
      have h2 : c = 84 ∨ c = 66 := by
        simp only [List.contains_cons, List.contains_nil, Bool.or_false, Bool.or_eq_true, beq_iff_eq] at hc
        rcases hc with e | e | e | e
        · exact (h1 (.inl e)).elim
        · exact (h1 (.inr e)).elim
        · exact .inl e
        · exact .inr e
      obtain ⟨j, rfl⟩ : ∃ q, j = q + 1 := ⟨j - 1, by omega⟩
      have hH : 2 ^ (j + 1) = 2 * 2 ^ j := by rw [Nat.pow_succ, Nat.mul_comm]
      have hH4 : 2 ^ j ≤ 4 := p2le (n := 2) (by omega)
      have hW8 : 2 ^ i ≤ 8 := p2le (n := 3) hi
      have hH0 : 0 < 2 ^ j := Nat.pow_pos (by omega)
      rw [gfold, if_neg h1, hH, Nat.mul_div_cancel_left _ (by omega : 0 < 2)]
      have hg : ∀ y x, y < 2 * 2 ^ j → x < 2 ^ i → (g y x).length ≤ 64 := fun y x hy hx => by rw [hC y x (by rw [hH]; exact hy) hx]; omega
      have hC' : ∀ y x, y < 2 ^ j → x < 2 ^ i → (gAcross (c == 84) (2 ^ j) g y x).length = C + C := fun y x hy hx => by
        unfold gAcross
        rw [List.length_append, turnL_len, hC _ x (by rw [hH]; unfold ovr; split <;> omega) hx, hC _ x (by rw [hH]; unfold und; split <;> omega) hx]
      obtain ⟨j1, j2, j3⟩ := ih (pos + 1) i j (C + C) (gAcross (c == 84) (2 ^ j) g) (by omega) hall' (by omega) (by omega) hi (by omega) hC' h64'
      have a1 := across_ev (bt s (pos : Int)) hH4 hW8 hg
      have a2 := halved_across (c == 84) ⟨hH0, hH4⟩ hW8 hg
      rcases h2 with rfl | rfl
      · have hb' : bt s (pos : Int) = 84 := hb
        refine ⟨leaves_stepB (by omega) (by omega) (.inl hb') a1 ?_, ifold_step true true (by omega) (by omega) (.inl ⟨hb', rfl, rfl⟩) a2 j2, j3.trans hlen'⟩
        rw [hb']; exact j1
      · have hb' : bt s (pos : Int) = 66 := hb
        refine ⟨leaves_stepB (by omega) (by omega) (.inr hb') a1 ?_, ifold_step true false (by omega) (by omega) (.inr (.inr (.inr ⟨hb', rfl, rfl⟩))) a2 j2, j3.trans hlen'⟩
        rw [hb']; exact j1
theorem leaves_two {a b : Int} {s : ByteArray} {i j : Nat} (hi : i ≤ 3) (hj : j ≤ 3) (ha : a = ((2 ^ i : Nat) : Int)) (hb : b = ((2 ^ j : Nat) : Int)) (hall : ∀ x ∈ s.data.toList, ([76, 82, 84, 66] : List UInt8).contains x = true) (hl : lrc s.data.toList = i) (hn : s.data.toList.length = i + j) :
    Ev (fun k => spec_l04Leaves.f k a b s) (gfold s.data.toList (2 ^ j) (2 ^ i) g0) ∧ Ev (fun k => impl_foldSheet.f k a b s) (gfold s.data.toList (2 ^ j) (2 ^ i) g0) ∧ (gfold s.data.toList (2 ^ j) (2 ^ i) g0).length = 2 ^ (i + j) := by
  have hz : s.size = s.data.toList.length := by simp
  subst ha hb
  have hW8 : 2 ^ i ≤ 8 := p2le (n := 3) hi
  have hH8 : 2 ^ j ≤ 8 := p2le (n := 3) hj
  obtain ⟨h1, h2, h3⟩ := leaves_loop s (by omega) s.size 0 i j 1 g0 (by omega) hall hl (by omega) hi hj (fun _ _ _ _ => rfl) (by rw [Nat.one_mul]; exact p2le (n := 6) (by omega))
  rw [List.drop_zero] at h1 h2 h3
  refine ⟨?_, implStart_ev s hH8 hW8 _ h2, ?_⟩
  · unfold spec_l04Leaves.f
    exact Ev.bind (specStart_ev hH8 hW8) h1
  · rw [h3, hz, hn, Nat.one_mul]
def okSch (a b : Int) (s : ByteArray) : Prop := ∃ i j : Nat, i ≤ 3 ∧ j ≤ 3 ∧ a = ((2 ^ i : Nat) : Int) ∧ b = ((2 ^ j : Nat) : Int) ∧ (∀ x ∈ s.data.toList, ([76, 82, 84, 66] : List UInt8).contains x = true) ∧ lrc s.data.toList = i ∧ s.data.toList.length = i + j
theorem fold_ok {a b : Int} {s : ByteArray} (h : okSch a b s) : ∃ l : List SL, Ev (fun k => spec_l04Leaves.f k a b s) l ∧ Ev (fun k => impl_foldSheet.f k a b s) l ∧ l.length ≤ 64 ∧ (l.length : Int) = a * b := by
  obtain ⟨i, j, hi, hj, ha, hb, hall, hl, hn⟩ := h
  obtain ⟨h1, h2, h3⟩ := leaves_two hi hj ha hb hall hl hn
  refine ⟨_, h1, h2, by rw [h3]; exact p2le (n := 6) (by omega), ?_⟩
  rw [h3, ha, hb, Nat.pow_add]
  exact Int.natCast_mul _ _
theorem mem_schP {n a c : Nat} {d s : ByteArray} {ch : UInt8} (hch : ([76, 82, 84, 66] : List UInt8).contains ch = true) (h : s ∈ schP (schL n) a c d ch) (hn : a + c = n + 1) (ih : ∀ (a c : Nat) (d s : ByteArray), a + c = n → s ∈ schL n a c d → ∃ t : List UInt8, s.data.toList = d.data.toList ++ t ∧ (∀ x ∈ t, ([76, 82, 84, 66] : List UInt8).contains x = true) ∧ lrc t = a ∧ t.length = n) : ∃ t : List UInt8, s.data.toList = d.data.toList ++ t ∧ (∀ x ∈ t, ([76, 82, 84, 66] : List UInt8).contains x = true) ∧ lrc t = a ∧ t.length = n + 1 := by
  have hd : (d ++ (⟨#[ch]⟩ : ByteArray)).data.toList = d.data.toList ++ [ch] := by rw [ByteArray.data_append]; simp
  unfold schP at h
  by_cases h1 : ch = 66 ∨ ch = 84
  · rw [if_pos h1] at h
    by_cases hc : 0 < c
    · rw [if_pos hc] at h
      obtain ⟨t, t1, t2, t3, t4⟩ := ih a (c - 1) _ s (by omega) h
      refine ⟨ch :: t, by rw [t1, hd, List.append_assoc]; rfl, fun x hx => ?_, ?_, by rw [List.length_cons, t4]⟩
      · rcases List.mem_cons.1 hx with rfl | hx
        · exact hch
        · exact t2 x hx
      · rw [lrc_cons, t3, if_neg (by rcases h1 with rfl | rfl <;> decide), Nat.add_zero]
    · rw [if_neg hc] at h; cases h
  · rw [if_neg h1] at h
    by_cases hc : 0 < a
    · rw [if_pos hc] at h
      obtain ⟨t, t1, t2, t3, t4⟩ := ih (a - 1) c _ s (by omega) h
      refine ⟨ch :: t, by rw [t1, hd, List.append_assoc]; rfl, fun x hx => ?_, ?_, by rw [List.length_cons, t4]⟩
      · rcases List.mem_cons.1 hx with rfl | hx
        · exact hch
        · exact t2 x hx
      · rw [lrc_cons, t3, if_pos (by
          simp only [List.contains_cons, List.contains_nil, Bool.or_false, Bool.or_eq_true, beq_iff_eq] at hch
          rcases hch with e | e | e | e
          · exact .inl e
          · exact .inr e
          · exact (h1 (.inr e)).elim
          · exact (h1 (.inl e)).elim)]
        omega
    · rw [if_neg hc] at h; cases h
theorem mem_schL : ∀ (n a c : Nat) (d s : ByteArray), a + c = n → s ∈ schL n a c d → ∃ t : List UInt8, s.data.toList = d.data.toList ++ t ∧ (∀ x ∈ t, ([76, 82, 84, 66] : List UInt8).contains x = true) ∧ lrc t = a ∧ t.length = n
  | 0, a, c, d, s, hn, h => by
    rw [schL, List.mem_singleton] at h
    subst h
    exact ⟨[], by simp, by simp, by show (0 : Nat) = a; omega, rfl⟩
  | n + 1, a, c, d, s, hn, h => by
    rw [schL] at h
    simp only [List.mem_append, List.not_mem_nil, or_false] at h
    rcases h with h | h | h | h
    · exact mem_schP (by decide) h hn (mem_schL n)
    · exact mem_schP (by decide) h hn (mem_schL n)
    · exact mem_schP (by decide) h hn (mem_schL n)
    · exact mem_schP (by decide) h hn (mem_schL n)
theorem schL_ok {i j : Nat} (hi : i ≤ 3) (hj : j ≤ 3) {s : ByteArray} (h : s ∈ schL (i + j) i j (⟨#[]⟩ : ByteArray)) : okSch ((2 ^ i : Nat) : Int) ((2 ^ j : Nat) : Int) s := by
  obtain ⟨t, t1, t2, t3, t4⟩ := mem_schL (i + j) i j _ s rfl h
  have e : s.data.toList = t := by rw [t1]; rfl
  exact ⟨i, j, hi, hj, rfl, rfl, by rw [e]; exact t2, by rw [e]; exact t3, by rw [e]; exact t4⟩
theorem rdT_get {l : List SL} {i : Nat} (h : i < l.length) : rd_T39 l (i : Int) = l[i] := by
  unfold rd_T39
  rw [Int.toNat_natCast, List.getD_eq_getElem?_getD, List.getElem?_eq_getElem h]
  rfl
theorem same_two (l x : List SL) (hl : l.length ≤ 100) : ∃ b : Bool, Ev (fun k => spec_l04Same.f k l x) b ∧ Ev (fun k => impl_Leaf_67.f k l x) b ∧ (b = true → l = x) := by
  unfold spec_l04Same.f impl_Leaf_67.f
  by_cases hn : (l.length : Int) = (x.length : Int)
  · have hnn : l.length = x.length := by omega
    have key : ∀ d i : Nat, i + d = l.length → (∀ j : Nat, j < i → l[j]? = x[j]?) → ∃ b : Bool, Ev (fun k => spec_l04Same.l0 k l x (i : Int)) b ∧ Ev (fun k => impl_Leaf_67.l0 k l x (l.length : Int) (i : Int)) b ∧ (b = true → l = x) := by
      intro d
      induction d with
      | zero =>
        intro i hi hj
        have h1 : ¬ (i : Int) < (l.length : Int) := nltc (by omega)
        refine ⟨true, Ev.step (f := fun _ => some true) (fun k => by rw [spec_l04Same.l0, if_neg h1]) (Ev.now _), Ev.step (f := fun _ => some true) (fun k => by rw [impl_Leaf_67.l0, if_neg h1]) (Ev.now _), fun _ => ?_⟩
        apply List.ext_getElem?
        intro j
        by_cases hlt : j < i
        · exact hj j hlt
        · rw [List.getElem?_eq_none (by omega), List.getElem?_eq_none (by omega)]
      | succ d ih =>
        intro i hi hj
        have h1 : (i : Int) < (l.length : Int) := ltc (by omega)
        have h2 : (i : Int) < (x.length : Int) := ltc (by omega)
        have e1 := w64n i (by omega)
        have hL : l[i]? = some (rd_T39 l (i : Int)) := by rw [rdT_get (by omega), List.getElem?_eq_getElem (by omega)]
        have hX : x[i]? = some (rd_T39 x (i : Int)) := by rw [rdT_get (by omega), List.getElem?_eq_getElem (by omega)]
        by_cases hq : (!(((rd_T39 l (i : Int)).f0) == ((rd_T39 x (i : Int)).f0)) || (!(((rd_T39 l (i : Int)).f1) == ((rd_T39 x (i : Int)).f1)) || (!(((rd_T39 l (i : Int)).f2) == ((rd_T39 x (i : Int)).f2)) || (!(((rd_T39 l (i : Int)).f3) == ((rd_T39 x (i : Int)).f3)))))) = true
        · refine ⟨false, Ev.step (f := fun _ => some false) (fun k => by rw [spec_l04Same.l0, if_pos h1, if_pos (nn _), if_pos h2, if_pos hq]) (Ev.now _), Ev.step (f := fun _ => some false) (fun k => by rw [impl_Leaf_67.l0, if_pos h1, if_pos (nn _), if_pos h1, if_pos h2, if_pos hq]) (Ev.now _), fun z => by cases z⟩
        · have heq : rd_T39 l (i : Int) = rd_T39 x (i : Int) := by
            generalize rd_T39 l (i : Int) = p at hq
            generalize rd_T39 x (i : Int) = q at hq
            obtain ⟨p0, p1, p2, p3⟩ := p
            obtain ⟨q0, q1, q2, q3⟩ := q
            simp only [Bool.or_eq_true, Bool.not_eq_true', beq_eq_false_iff_ne, ne_eq, not_or, Classical.not_not] at hq
            obtain ⟨z0, z1, z2, z3⟩ := hq
            subst z0 z1 z2 z3
            rfl
          obtain ⟨b, b1, b2, b3⟩ := ih (i + 1) (by omega) (fun j hji => by
            by_cases he : j = i
            · rw [he, hL, hX, heq]
            · exact hj j (by omega))
          refine ⟨b, Ev.step (fun k => ?_) b1, Ev.step (fun k => ?_) b2, b3⟩
          · rw [spec_l04Same.l0, if_pos h1, if_pos (nn _), if_pos h2, if_neg hq, e1]
          · rw [impl_Leaf_67.l0, if_pos h1, if_pos (nn _), if_pos h1, if_pos h2, if_neg hq, e1]
    obtain ⟨b, b1, b2, b3⟩ := key l.length 0 (by omega) (fun j hj => by omega)
    exact ⟨b, Ev_ite_t hn b1, Ev_ite_t hn b2, b3⟩
  · exact ⟨false, Ev_ite_f hn (Ev.now _), Ev_ite_f hn (Ev.now _), fun z => by cases z⟩
theorem find_loop (a b : Int) (x : List SL) (all : List ByteArray) (hlen : all.length ≤ 5000) (hok : ∀ s ∈ all, okSch a b s) : ∀ (d i : Nat), i + d = all.length → ∃ r : Option ByteArray, Ev (fun k => spec_FindScheme.l0 k a b x all (i : Int)) (r.elim ((⟨#[]⟩ : ByteArray), 4) (fun s => (s, 0))) ∧ (∀ t : ByteArray, ∃ t' : ByteArray, Ev (fun k => runL (fs_p k a b x) (all.drop i) t) (r.elim (false, t') (fun s => (true, s)))) ∧ (∀ s, r = some s → s ∈ all ∧ ∃ l, Ev (fun k => spec_l04Leaves.f k a b s) l ∧ Ev (fun k => impl_foldSheet.f k a b s) l ∧ l = x) := by
  intro d
  induction d with
  | zero =>
    intro i hi
    have h1 : ¬ (i : Int) < (all.length : Int) := nltc (by omega)
    rw [List.drop_of_length_le (by omega)]
    exact ⟨none, Ev.step (f := fun _ => some ((⟨#[]⟩ : ByteArray), 4)) (fun k => by rw [spec_FindScheme.l0, if_neg h1]) (Ev.now _), fun t => ⟨t, Ev.now _⟩, fun s z => by cases z⟩
  | succ d ih =>
    intro i hi
    have hil : i < all.length := by omega
    have h1 : (i : Int) < (all.length : Int) := ltc hil
    have e1 := w64n i (by omega)
    have hrd : rdOf ByteArray.empty all (i : Int) = all[i] := by unfold rdOf; rw [Int.toNat_natCast, List.getD_eq_getElem?_getD, List.getElem?_eq_getElem hil]; rfl
    have hmem : all[i] ∈ all := List.getElem_mem hil
    rw [List.drop_eq_getElem_cons hil]
    have hs := hok _ hmem
    generalize all[i] = s at hrd hs hmem ⊢
    obtain ⟨l, l1, l2, l3, _⟩ := fold_ok hs
    obtain ⟨q, q1, q2, q3⟩ := same_two l x (by omega)
    cases q with
    | true =>
      refine ⟨some s, ?_, fun t => ⟨t, ?_⟩, fun s' z => by injection z with z; subst z; exact ⟨hmem, l, l1, l2, q3 rfl⟩⟩
      · refine Ev.step (fun k => by rw [spec_FindScheme.l0, if_pos h1, if_pos (nn _), hrd]) ?_
        exact Ev.bind l1 (Ev.bind q1 (Ev_ite_t rfl (Ev.now _)))
      · refine Ev.congr (fun k => by rw [runL]) ?_
        refine Ev.bind (g := fun k => fs_p k a b x s t) (a := (true, s)) ?_ (Ev_ite_t rfl (Ev.now _))
        exact Ev.bind l2 (Ev.bind q2 (Ev.now _))
    | false =>
      obtain ⟨r, r1, r2, r3⟩ := ih (i + 1) (by omega)
      refine ⟨r, ?_, fun t => ?_, r3⟩
      · refine Ev.step (fun k => by rw [spec_FindScheme.l0, if_pos h1, if_pos (nn _), hrd, e1]) ?_
        exact Ev.bind l1 (Ev.bind q1 (Ev_ite_f (by simp) r1))
      · obtain ⟨t', ht'⟩ := r2 s
        refine ⟨t', Ev.congr (fun k => by rw [runL]) ?_⟩
        refine Ev.bind (g := fun k => fs_p k a b x s t) (a := (false, s)) ?_ (Ev_ite_f (by simp) ht')
        exact Ev.bind l2 (Ev.bind q2 (Ev.now _))
theorem findscheme_two (a b : Int) (x : List SL) : ∃ v : ByteArray × Int, Ev (fun k => spec_FindScheme.f k a b x) v ∧ Ev (fun k => impl_FindScheme.f k a b x) v ∧ (v.2 = 0 → okSch a b v.1 ∧ ∃ l, Ev (fun k => spec_l04Leaves.f k a b v.1) l ∧ Ev (fun k => impl_foldSheet.f k a b v.1) l ∧ l = x) := by
  unfold spec_FindScheme.f impl_FindScheme.f
  rcases sheet_cases a b with ⟨i, j, i1, j1, a1, b1, i3, j3, s1, s2, i5, j5⟩ | ⟨s1, s2⟩
  · have hall := specAll_ev i3 j3 i1 j1
    have hl6 := schL_len6 (n := i + j) (by omega) i j (⟨#[]⟩ : ByteArray)
    obtain ⟨r, r1, r2, r3⟩ := find_loop a b x (schL (i + j) i j (⟨#[]⟩ : ByteArray)) (by omega) (fun s hs => by rw [a1, b1]; exact schL_ok i1 j1 hs) _ 0 (Nat.zero_add _)
    obtain ⟨t', ht'⟩ := r2 (⟨#[]⟩ : ByteArray)
    rw [List.drop_zero] at ht'
    refine ⟨r.elim ((⟨#[]⟩ : ByteArray), 4) (fun s => (s, 0)), ?_, ?_, ?_⟩
    · rw [s1]
      exact Ev.bind (Ev.now _) (Ev_ite_t rfl (Ev.bind hall r1))
    · rw [s2]
      refine Ev.bind (Ev.now _) (Ev_ite_t rfl (Ev.bind i5 (Ev.bind j5 (Ev_ite_t ⟨by omega, by omega, by omega, by omega⟩ ?_))))
      rw [Int.toNat_natCast, Int.toNat_natCast]
      refine Ev.bind ht' ?_
      cases r with
      | none => exact Ev_ite_f (by simp) (Ev.now _)
      | some s => exact Ev_ite_t rfl (Ev.now _)
    · cases r with
      | none => intro z; cases z
      | some s =>
        intro _
        obtain ⟨m, hl⟩ := r3 s rfl
        exact ⟨by rw [a1, b1]; exact schL_ok i1 j1 m, hl⟩
  · refine ⟨((⟨#[]⟩ : ByteArray), 1), ?_, ?_, fun z => by cases z⟩
    · rw [s1]; exact Ev.bind (Ev.now _) (Ev_ite_f (by simp) (Ev.now _))
    · rw [s2]; exact Ev.bind (Ev.now _) (Ev_ite_f (by simp) (Ev.now _))
theorem implSchemes_ev (a b : Int) : ∃ r : List ByteArray × Int, Ev (fun k => impl_SchemesOf.f k a b) r ∧ r.1.length ≤ 4096 ∧ ((∃ i j : Nat, i ≤ 3 ∧ j ≤ 3 ∧ a = ((2 ^ i : Nat) : Int) ∧ b = ((2 ^ j : Nat) : Int) ∧ spec_l04Sheet.f a b = some true ∧ Ev (fun k => spec_l04All.f k a b) r.1 ∧ r = (schL (i + j) i j (⟨#[]⟩ : ByteArray), 0)) ∨ (spec_l04Sheet.f a b = some false ∧ r = ([], 1))) := by
  unfold impl_SchemesOf.f
  rcases sheet_cases a b with ⟨i, j, i1, j1, a1, b1, i3, j3, s1, s2, i5, j5⟩ | ⟨s1, s2⟩
  · have hl := schL_len6 (n := i + j) (by omega) i j (⟨#[]⟩ : ByteArray)
    refine ⟨(schL (i + j) i j (⟨#[]⟩ : ByteArray), 0), ?_, hl, .inl ⟨i, j, i1, j1, a1, b1, s1, specAll_ev i3 j3 i1 j1, rfl⟩⟩
    rw [s2]
    refine Ev.bind (Ev.now _) (Ev_ite_t rfl (Ev.bind i5 (Ev.bind j5 (Ev_ite_t ?_ (Ev.now _)))))
    rw [Int.toNat_natCast, Int.toNat_natCast]
    exact ⟨by omega, by omega, by omega, by omega, by omega⟩
  · refine ⟨([], 1), ?_, by simp, .inr ⟨s1, rfl⟩⟩
    rw [s2]
    exact Ev.bind (Ev.now _) (Ev_ite_f (by simp) (Ev.now _))
theorem trim_nil (cs : List UInt8) : ∀ l : List UInt8, Go.Lib.trimS l cs = [] ↔ ∀ b ∈ l, cs.contains b = true := by
  have dw : ∀ l : List UInt8, l.dropWhile (cs.contains ·) = [] ↔ ∀ b ∈ l, cs.contains b = true := by
    intro l
    induction l with
    | nil => simp
    | cons a t ih =>
      rw [List.dropWhile_cons]
      by_cases h : cs.contains a = true
      · rw [if_pos h, ih]
        exact ⟨fun g b hb => by rcases List.mem_cons.1 hb with rfl | hb; exact h; exact g b hb, fun g b hb => g b (List.mem_cons_of_mem _ hb)⟩
      · rw [if_neg h]
        exact ⟨fun g => (List.cons_ne_nil _ _ g).elim, fun g => absurd (g a List.mem_cons_self) h⟩
  intro l
  unfold Go.Lib.trimS Go.Lib.trimLeftS
  rw [dw]
  unfold Go.Lib.trimRightS
  constructor
  · intro g
    have e : l.reverse.dropWhile (cs.contains ·) = [] := by
      cases hd : l.reverse.dropWhile (cs.contains ·) with
      | nil => rfl
      | cons a t =>
        have h1 := List.head?_dropWhile_not (cs.contains ·) l.reverse
        rw [hd] at h1 g
        have h2 := g a (by simp)
        simp only [List.head?_cons] at h1
        rw [h2] at h1
        cases h1
    intro b hb
    exact (dw l.reverse).1 e b (List.mem_reverse.2 hb)
  · intro g
    have e := (dw l.reverse).2 (fun b hb => g b (List.mem_reverse.1 hb))
    rw [e]
    intro b hb
    simp at hb
def sL (one two : Bool) : List UInt8 → Int → Int → Bool
  | [], a, b => if one = true then (if two = true then (if a = 0 then b == 0 else false) else false) else false
  | c :: t, a, b => if c = 76 ∨ c = 82 then sL one two t (a - 1) b else if c = 84 ∨ c = 66 then sL one two t a (b - 1) else false
theorem sL_iff (one two : Bool) : ∀ (l : List UInt8) (a b : Int), sL one two l a b = true ↔ (∀ x ∈ l, ([76, 82, 84, 66] : List UInt8).contains x = true) ∧ one = true ∧ two = true ∧ a = (lrc l : Int) ∧ b = (l.length : Int) - (lrc l : Int)
  | [], a, b => by
    rw [sL, show lrc [] = 0 from rfl]
    cases one <;> cases two <;> simp <;> omega
  | c :: t, a, b => by
    rw [sL, lrc_cons, List.length_cons]
    by_cases h1 : c = 76 ∨ c = 82
    · rw [if_pos h1, if_pos h1, sL_iff one two t]
      have hc : ([76, 82, 84, 66] : List UInt8).contains c = true := by rcases h1 with rfl | rfl <;> decide
      constructor
      · rintro ⟨g1, g2, g3, g4, g5⟩
        exact ⟨fun x hx => by rcases List.mem_cons.1 hx with rfl | hx; exact hc; exact g1 x hx, g2, g3, by omega, by omega⟩
      · rintro ⟨g1, g2, g3, g4, g5⟩
        exact ⟨fun x hx => g1 x (List.mem_cons_of_mem _ hx), g2, g3, by omega, by omega⟩
    · rw [if_neg h1, if_neg h1]
      by_cases h2 : c = 84 ∨ c = 66
      · rw [if_pos h2, sL_iff one two t]
        have hc : ([76, 82, 84, 66] : List UInt8).contains c = true := by rcases h2 with rfl | rfl <;> decide
        constructor
        · rintro ⟨g1, g2, g3, g4, g5⟩
          exact ⟨fun x hx => by rcases List.mem_cons.1 hx with rfl | hx; exact hc; exact g1 x hx, g2, g3, by omega, by omega⟩
        · rintro ⟨g1, g2, g3, g4, g5⟩
          exact ⟨fun x hx => g1 x (List.mem_cons_of_mem _ hx), g2, g3, by omega, by omega⟩
      · rw [if_neg h2]
        constructor
        · intro z; cases z
        · rintro ⟨g1, _⟩
          have := g1 c List.mem_cons_self
          simp only [List.contains_cons, List.contains_nil, Bool.or_false, Bool.or_eq_true, beq_iff_eq] at this
          rcases this with e | e | e | e
          · exact (h1 (.inl e)).elim
          · exact (h1 (.inr e)).elim
          · exact (h2 (.inl e)).elim
          · exact (h2 (.inr e)).elim
theorem specIsScheme_loop (s : ByteArray) (one two : Bool) (hs : s.size ≤ 1048576) : ∀ (d i : Nat), i + d = s.size → ∀ a b : Int, -4000000 ≤ a - (d : Int) → a ≤ 4000000 → -4000000 ≤ b - (d : Int) → b ≤ 4000000 → Ev (fun k => spec_IsScheme.l0 k s a one b two (i : Int)) (sL one two (s.data.toList.drop i) a b) := by
  have hz : s.size = s.data.toList.length := by simp
  intro d
  induction d with
  | zero =>
    intro i hi a b _ _ _ _
    rw [List.drop_of_length_le (by omega), sL]
    refine Ev.step (f := fun _ => some (if one = true then (if two = true then (if a = 0 then b == 0 else false) else false) else false)) (fun k => ?_) (Ev.now _)
    rw [spec_IsScheme.l0, if_neg (by omega)]
    cases one <;> cases two <;> by_cases h : a = 0 <;> simp [h]
  | succ d ih =>
    intro i hi a b h1 h2 h3 h4
    have hil : i < s.data.toList.length := by omega
    rw [List.drop_eq_getElem_cons hil, sL]
    have hb := bt_list s i (by omega)
    generalize s.data.toList[i] = c at hb
    have b76 := byte_eq c 76 (by omega)
    have b82 := byte_eq c 82 (by omega)
    have b84 := byte_eq c 84 (by omega)
    have b66 := byte_eq c 66 (by omega)
    have e76 : bt s (i : Int) = 76 ↔ c = 76 := by rw [hb]; exact b76
    have e82 : bt s (i : Int) = 82 ↔ c = 82 := by rw [hb]; exact b82
    have e84 : bt s (i : Int) = 84 ↔ c = 84 := by rw [hb]; exact b84
    have e66 : bt s (i : Int) = 66 ↔ c = 66 := by rw [hb]; exact b66
    have step : ∀ r, Ev (fun k => spec_IsScheme.j1 k s a one b two (i : Int) (bt s (i : Int)) (decide (c = 76 ∨ c = 82))) r → Ev (fun k => spec_IsScheme.l0 k s a one b two (i : Int)) r := by
      intro r hr
      refine Ev.step (fun k => ?_) hr
      rw [spec_IsScheme.l0, if_pos (by omega), if_pos (by omega)]
      by_cases c1 : bt s (i : Int) = 76
      · rw [if_pos c1, show ((bt s (i : Int)) == 76) = true from by rw [c1]; rfl, decide_eq_true (.inl (e76.1 c1))]
      · rw [if_neg c1]
        by_cases c2 : bt s (i : Int) = 82
        · rw [show ((bt s (i : Int)) == 82) = true from by rw [c2]; rfl, decide_eq_true (.inr (e82.1 c2))]
        · rw [show ((bt s (i : Int)) == 82) = false from beq_false_of_ne c2, decide_eq_false (fun z => by rcases z with z | z; exact c1 (e76.2 z); exact c2 (e82.2 z))]
    apply step
    by_cases g1 : c = 76 ∨ c = 82
    · rw [if_pos g1, decide_eq_true g1]
      refine Ev.step (fun k => by rw [spec_IsScheme.j1, if_pos rfl, w64n i (by omega), w64 (x := a - 1) (by omega) (by omega)]) ?_
      exact ih (i + 1) (by omega) _ _ (by omega) (by omega) (by omega) (by omega)
    · rw [if_neg g1, decide_eq_false g1]
      by_cases g2 : c = 84 ∨ c = 66
      · rw [if_pos g2]
        refine Ev.step (f := fun k => spec_IsScheme.l0 k s a one (b - 1) two ((i + 1 : Nat) : Int)) (fun k => ?_) (ih (i + 1) (by omega) _ _ (by omega) (by omega) (by omega) (by omega))
        rw [spec_IsScheme.j1, if_neg (by simp), w64n i (by omega), w64 (x := b - 1) (by omega) (by omega)]
        by_cases c3 : bt s (i : Int) = 84
        · rw [if_pos c3]
        · rw [if_neg c3, if_pos (e66.2 (by rcases g2 with z | z; exact (c3 (e84.2 z)).elim; exact z))]
      · rw [if_neg g2]
        refine Ev.step (f := fun _ => some false) (fun k => ?_) (Ev.now _)
        rw [spec_IsScheme.j1, if_neg (by simp), if_neg (fun z => g2 (.inl (e84.1 z))), if_neg (fun z => g2 (.inr (e66.1 z)))]
theorem isScheme_two (a b : Int) (s : ByteArray) (hs : s.size ≤ 1048576) : ∃ v : Bool, Ev (fun k => spec_IsScheme.f k a b s) v ∧ Ev (fun k => impl_IsScheme.f k a b s) v ∧ (v = true → ∃ i j : Nat, i ≤ 3 ∧ j ≤ 3 ∧ a = ((2 ^ i : Nat) : Int) ∧ b = ((2 ^ j : Nat) : Int) ∧ (∀ x ∈ s.data.toList, ([76, 82, 84, 66] : List UInt8).contains x = true) ∧ lrc s.data.toList = i ∧ s.data.toList.length = i + j) := by
  have hz : s.size = s.data.toList.length := by simp
  have hle := lrc_le s.data.toList
  have spec : ∀ (i j : Nat) (one two : Bool), i ≤ 3 → j ≤ 3 → spec_l04Power.f a = some ((i : Int), one) → spec_l04Power.f b = some ((j : Int), two) → Ev (fun k => spec_IsScheme.f k a b s) (sL one two s.data.toList (i : Int) (j : Int)) := by
    intro i j one two hi hj p1 p2
    unfold spec_IsScheme.f
    rw [p1, p2]
    refine Ev.bind (Ev.now _) (Ev.bind (Ev.now _) ?_)
    have := specIsScheme_loop s one two hs s.size 0 (by omega) (i : Int) (j : Int) (by omega) (by omega) (by omega) (by omega)
    rw [List.drop_zero] at this
    exact Ev.congr (fun k => rfl) this
  have no : ∀ (i j : Nat) (one two : Bool), (one = false ∨ two = false) → sL one two s.data.toList (i : Int) (j : Int) = false := by
    intro i j one two h
    rw [Bool.eq_false_iff]
    intro z
    obtain ⟨_, z1, z2, _⟩ := (sL_iff _ _ _ _ _).1 z
    rcases h with h | h
    · rw [h] at z1; cases z1
    · rw [h] at z2; cases z2
  have bad : impl_isSheet.f a b = some false → Ev (fun k => impl_IsScheme.f k a b s) false := by
    intro h
    unfold impl_IsScheme.f
    rw [h]
    exact Ev.bind (Ev.now _) (Ev_ite_f (by simp) (Ev.now _))
  rcases side_cases a with ⟨i, i1, i2, i3, i4, i5⟩ | ⟨i3, i4⟩
  · rcases side_cases b with ⟨j, j1, j2, j3, j4, j5⟩ | ⟨j3, j4⟩
    · have hsh : impl_isSheet.f a b = some true := by unfold impl_isSheet.f; rw [i4, j4]; rfl
      refine ⟨_, spec i j true true i1 j1 i3 j3, ?_, ?_⟩
      · unfold impl_IsScheme.f
        rw [hsh]
        refine Ev.bind (Ev.now _) (Ev_ite_t rfl (Ev_ite_t hs ?_))
        have hiff := sL_iff true true s.data.toList (i : Int) (j : Int)
        have hlr : lrcount s = lrc s.data.toList := rfl
        by_cases ht : Go.Lib.trimS s.data.toList [76, 82, 84, 66] = []
        · refine Ev_ite_t ht (Ev.bind i5 ?_)
          have hall := (trim_nil _ _).1 ht
          by_cases hc : (lrcount s : Int) = (i : Int)
          · refine Ev_ite_t hc (Ev.bind j5 ?_)
            have e : sL true true s.data.toList (i : Int) (j : Int) = decide ((s.size : Int) - (lrcount s : Int) = (j : Int)) := by
              rw [Bool.eq_iff_iff, hiff, decide_eq_true_iff]
              constructor
              · rintro ⟨_, _, _, g1, g2⟩
                rw [hz, hlr, g2]
              · intro g
                exact ⟨hall, rfl, rfl, by rw [← hlr, hc], by rw [← hlr, ← hz, g]⟩
            rw [e]
            exact Ev.now _
          · rw [show sL true true s.data.toList (i : Int) (j : Int) = false from by
              rw [Bool.eq_false_iff]; intro z
              obtain ⟨_, _, _, z4, _⟩ := hiff.1 z
              exact hc (by rw [hlr, z4])]
            exact Ev_ite_f hc (Ev.now _)
        · rw [show sL true true s.data.toList (i : Int) (j : Int) = false from by
            rw [Bool.eq_false_iff]; intro z
            exact ht ((trim_nil _ _).2 (hiff.1 z).1)]
          exact Ev_ite_f ht (Ev.now _)
      · intro z
        obtain ⟨z1, _, _, z4, z5⟩ := (sL_iff _ _ _ _ _).1 z
        exact ⟨i, j, i1, j1, i2, j2, z1, by omega, by omega⟩
    · have hsh : impl_isSheet.f a b = some false := by unfold impl_isSheet.f; rw [i4, j4]; rfl
      have e := spec i 0 true false i1 (by omega) i3 j3
      rw [no i 0 true false (.inr rfl)] at e
      exact ⟨false, e, bad hsh, fun z => by cases z⟩
  · have hsh : impl_isSheet.f a b = some false := by unfold impl_isSheet.f; rw [i4]; rfl
    rcases side_cases b with ⟨j, j1, j2, j3, j4, j5⟩ | ⟨j3, j4⟩
    · have e := spec 0 j false true (by omega) j1 i3 j3
      rw [no 0 j false true (.inl rfl)] at e
      exact ⟨false, e, bad hsh, fun z => by cases z⟩
    · have e := spec 0 0 false false (by omega) (by omega) i3 j3
      rw [no 0 0 false false (.inl rfl)] at e
      exact ⟨false, e, bad hsh, fun z => by cases z⟩
theorem codes_two (a b : Int) (s : ByteArray) (hs : s.size ≤ 1048576) : ∃ c : Int, Ev (fun k => spec_l04Code.f k a b s) c ∧ Ev (fun k => impl_checkScheme.f k a b s) c ∧ 0 ≤ c ∧ c ≤ 2 ∧ (c = 0 → okSch a b s) := by
  obtain ⟨v, v1, v2, v3⟩ := isScheme_two a b s hs
  unfold spec_l04Code.f impl_checkScheme.f
  rcases sheet_cases a b with ⟨i, j, _, _, _, _, _, _, s1, s2, _, _⟩ | ⟨s1, s2⟩
  · rw [s1, s2]
    cases hv : v with
    | true =>
      rw [hv] at v1 v2
      exact ⟨0, Ev.bind (Ev.now _) (Ev_ite_t rfl (Ev.bind v1 (Ev_ite_t rfl (Ev.now _)))), Ev.bind (Ev.now _) (Ev_ite_t rfl (Ev.bind v2 (Ev_ite_t rfl (Ev.now _)))), by omega, by omega, fun _ => v3 hv⟩
    | false =>
      rw [hv] at v1 v2
      exact ⟨2, Ev.bind (Ev.now _) (Ev_ite_t rfl (Ev.bind v1 (Ev_ite_f (by simp) (Ev.now _)))), Ev.bind (Ev.now _) (Ev_ite_t rfl (Ev.bind v2 (Ev_ite_f (by simp) (Ev.now _)))), by omega, by omega, fun z => by omega⟩
  · rw [s1, s2]
    exact ⟨1, Ev.bind (Ev.now _) (Ev_ite_f (by simp) (Ev.now _)), Ev.bind (Ev.now _) (Ev_ite_f (by simp) (Ev.now _)), by omega, by omega, fun z => by omega⟩
theorem p2inj {i j : Nat} (h : ((2 ^ i : Nat) : Int) = ((2 ^ j : Nat) : Int)) : i = j := (Nat.pow_right_inj (by omega : 1 < 2)).1 (Int.ofNat.inj h)
theorem isSide_ok {i : Nat} (hi : i ≤ 3) : impl_isSide.f ((2 ^ i : Nat) : Int) = some true := by
  have h : ∀ i : Fin 4, impl_isSide.f ((2 ^ i.val : Nat) : Int) = some true := by decide +kernel
  exact h ⟨i, by omega⟩
theorem halv_ok {i : Nat} (hi : i ≤ 3) : Ev (fun k => impl_halvings.f k ((2 ^ i : Nat) : Int)) (i : Int) := by
  rcases side_cases ((2 ^ i : Nat) : Int) with ⟨j, _, j2, _, _, j5⟩ | ⟨_, j4⟩
  · rw [← p2inj j2] at j5
    exact j5
  · rw [isSide_ok hi] at j4
    cases j4
theorem isScheme_ok {a b : Int} {s : ByteArray} (h : okSch a b s) : Ev (fun k => impl_IsScheme.f k a b s) true := by
  obtain ⟨i, j, hi, hj, ha, hb, hall, hl, hn⟩ := h
  have hz : s.size = s.data.toList.length := by simp
  have hlr : lrcount s = lrc s.data.toList := rfl
  subst ha hb
  have hsh : impl_isSheet.f ((2 ^ i : Nat) : Int) ((2 ^ j : Nat) : Int) = some true := by unfold impl_isSheet.f; rw [isSide_ok hi, isSide_ok hj]; rfl
  unfold impl_IsScheme.f
  rw [hsh]
  have e : decide ((s.size : Int) - (lrcount s : Int) = (j : Int)) = true := decide_eq_true (by rw [hlr, hl]; omega)
  exact Ev.bind (Ev.now _) (Ev_ite_t rfl (Ev_ite_t (by omega) (Ev_ite_t ((trim_nil _ _).2 hall) (Ev.bind (halv_ok hi) (Ev_ite_t (by rw [hlr, hl]) (Ev.bind (halv_ok hj) (Ev.congr (fun k => congrArg some e) (Ev.now true))))))))
theorem code_ok {a b : Int} {s : ByteArray} (h : okSch a b s) : Ev (fun k => impl_checkScheme.f k a b s) 0 := by
  obtain ⟨i, j, hi, hj, ha, hb, _⟩ := id h
  have hsh : impl_isSheet.f a b = some true := by rw [ha, hb]; unfold impl_isSheet.f; rw [isSide_ok hi, isSide_ok hj]; rfl
  unfold impl_checkScheme.f
  rw [hsh]
  exact Ev.bind (Ev.now _) (Ev_ite_t rfl (Ev.bind (isScheme_ok h) (Ev_ite_t rfl (Ev.now _))))
theorem okSch_pos {a b : Int} {s : ByteArray} (h : okSch a b s) : 0 < a * b := by
  obtain ⟨i, j, _, _, ha, hb, _⟩ := h
  rw [ha, hb]
  exact Int.mul_pos (Int.ofNat_lt.2 (Nat.pow_pos (by omega))) (Int.ofNat_lt.2 (Nat.pow_pos (by omega)))
theorem sheet_two (a b : Int) (s : ByteArray) (hs : s.size ≤ 1048576) : ∃ v : List SL × Int, Ev (fun k => spec_FoldSheet.f k a b s) v ∧ Ev (fun k => impl_FoldSheet.f k a b s) v ∧ v.1.length ≤ 64 := by
  obtain ⟨c, c1, c2, c3, c4, c5⟩ := codes_two a b s hs
  unfold spec_FoldSheet.f impl_FoldSheet.f
  by_cases hc : c = 0
  · obtain ⟨l, l1, l2, l3, _⟩ := fold_ok (c5 hc)
    exact ⟨(l, 0), Ev.bind c1 (Ev_ite_t hc (Ev.bind l1 (Ev.now _))), Ev.bind c2 (Ev_ite_t hc (Ev.bind l2 (Ev.now _))), l3⟩
  · exact ⟨([], c), Ev.bind c1 (Ev_ite_f hc (Ev.now _)), Ev.bind c2 (Ev_ite_f hc (Ev.now _)), by simp⟩
theorem likeLeaves_ev (l : List SL) (h : l.length ≤ 1000000000) : Ev (fun k => laws_likeLeaves9.f k l l) true := by
  have key : ∀ d i : Nat, i + d = l.length → Ev (fun k => laws_likeLeaves9.l0 k l l (i : Int)) true := by
    intro d
    induction d with
    | zero =>
      intro i hi
      have hn : ¬ (i : Int) < (l.length : Int) := nltc (by omega)
      exact Ev.step (f := fun _ => some true) (fun k => by rw [laws_likeLeaves9.l0, if_neg hn]) (Ev.now _)
    | succ d ih =>
      intro i hi
      have ih' := ih (i + 1) (by omega)
      have f1 : (i : Int) < (l.length : Int) := ltc (by omega)
      refine Ev.step (fun k => ?_) ih'
      rw [laws_likeLeaves9.l0, if_pos f1, if_pos (nn _), if_pos f1, if_neg (by simp), w64n i (by omega)]
  unfold laws_likeLeaves9.f
  exact Ev_ite_t rfl (key l.length 0 (by omega))
theorem ev_unique {α : Type} {g : Nat → Option α} {a b : α} (ha : Ev g a) (hb : Ev g b) : a = b := by
  obtain ⟨n, hn⟩ := ha
  obtain ⟨m, hm⟩ := hb
  exact Option.some.inj ((hn (max n m) (Nat.le_max_left _ _)).symm.trans (hm (max n m) (Nat.le_max_right _ _)))
theorem likeTexts_ev (l : List ByteArray) (hl : l.length ≤ 35184372088832) : Ev (fun k => laws_likeTexts9.f k l l) true := by
  have loop : ∀ (d i : Nat), i + d = l.length → Ev (fun k => laws_likeTexts9.l0 k l l (i : Int)) true := by
    intro d
    induction d with
    | zero =>
      intro i hi
      refine Ev.step (f := fun _ => some true) (fun k => by rw [laws_likeTexts9.l0, if_neg (by omega)]) (Ev.now _)
    | succ d ih =>
      intro i hi
      refine Ev.step (f := fun k => laws_likeTexts9.l0 k l l ((i + 1 : Nat) : Int)) (fun k => by rw [laws_likeTexts9.l0, if_pos (by omega), if_pos (by omega), if_pos (by omega), if_pos rfl, w64n i (by omega)]) ?_
      exact ih (i + 1) (by omega)
  unfold laws_likeTexts9.f
  exact Ev_ite_t rfl (loop l.length 0 (by omega))
def adjB : List ByteArray → Bool
  | a :: b :: t => Op.bytesLess a.data.toList b.data.toList && adjB (b :: t)
  | _ => true
theorem adj_get : ∀ (l : List ByteArray) (k : Nat), adjB l = true → ∀ h : k + 1 < l.length, Op.bytesLess (l[k]'(by omega)).data.toList l[k + 1].data.toList = true
  | [], k, _, h => by simp at h
  | [a], k, _, h => by simp at h
  | a :: b :: t, 0, ha, h => by
    rw [adjB, Bool.and_eq_true] at ha
    exact ha.1
  | a :: b :: t, k + 1, ha, h => by
    rw [adjB, Bool.and_eq_true] at ha
    exact adj_get (b :: t) k ha.2 (by simpa using h)
theorem sch_adj : ∀ i j : Fin 3, adjB (schL (i.val + j.val) i.val j.val (⟨#[]⟩ : ByteArray)) = true := by decide +kernel
theorem rdOf_get {l : List ByteArray} {i : Nat} (h : i < l.length) : rdOf ByteArray.empty l (i : Int) = l[i] := by unfold rdOf; rw [Int.toNat_natCast, List.getD_eq_getElem?_getD, List.getElem?_eq_getElem h]; rfl
theorem sheet_pos (a b : Int) (s : ByteArray) (hs : s.size ≤ 1048576) : ∃ v : List SL × Int, Ev (fun k => spec_FoldSheet.f k a b s) v ∧ v.1.length ≤ 64 ∧ (v.2 = 0 → 0 < v.1.length) := by
  obtain ⟨c, c1, c2, c3, c4, c5⟩ := codes_two a b s hs
  unfold spec_FoldSheet.f
  by_cases hc : c = 0
  · obtain ⟨l, l1, l2, l3, l4⟩ := fold_ok (c5 hc)
    have := okSch_pos (c5 hc)
    exact ⟨(l, 0), Ev.bind c1 (Ev_ite_t hc (Ev.bind l1 (Ev.now _))), l3, fun _ => by show 0 < l.length; omega⟩
  · exact ⟨([], c), Ev.bind c1 (Ev_ite_f hc (Ev.now _)), by simp, fun z => (hc z).elim⟩
theorem drawFind_ok {c : List Int} {a s : Int} (h0 : Src c a s) (w h : Int) (t : ByteArray) (ht : t.size ≤ 7) : ∃ r : Int × Int × List SL, Ev (fun k => spec_DrawFindScheme.j0 k w h t c a s) r ∧ r.2.2.length ≤ 64 := by
  obtain ⟨v, v1, v2, v3⟩ := sheet_pos w h t (by omega)
  by_cases hv : v.2 = 0
  · obtain ⟨m, a1, s1, e1, h1, _, _⟩ := next_ok h0 3 (by omega)
    by_cases hm : m = 0
    · obtain ⟨q, a2, s2, e2, h2, q0, q1⟩ := next_ok h1 (v.1.length : Int) (by omega)
      have q2 := q1 (by have := v3 hv; omega)
      refine ⟨(w, h, v.1.set q.toNat (⟨(rd_T39 v.1 q).f0, (rd_T39 v.1 q).f1, !((rd_T39 v.1 q).f2), (rd_T39 v.1 q).f3⟩ : SL)), Ev.step (fun k => by rw [spec_DrawFindScheme.j0]) (Ev.bind v1 (Ev_ite_t hv ?_)), by show (v.1.set _ _).length ≤ 64; rw [List.length_set]; exact v2⟩
      rw [e1]
      refine Ev.bind (Ev.now _) (Ev_ite_t hm ?_)
      rw [e2]
      exact Ev.bind (Ev.now _) (Ev_ite_t q0 (Ev_ite_t q2 (Ev.now _)))
    · refine ⟨(w, h, v.1), Ev.step (fun k => by rw [spec_DrawFindScheme.j0]) (Ev.bind v1 (Ev_ite_t hv ?_)), v2⟩
      rw [e1]
      exact Ev.bind (Ev.now _) (Ev_ite_f hm (Ev.now _))
  · exact ⟨(w, h, []), Ev.step (fun k => by rw [spec_DrawFindScheme.j0]) (Ev.bind v1 (Ev_ite_f hv (Ev.now _))), by simp⟩
theorem FnSchemes : laws_FnSchemes.Pure := by
  intro c hc1 hc2 hw
  apply Ev.rounds
  unfold laws_FnSchemes.f laws_big.f
  simp only [Option.bind_some, decide_eq_true_eq]
  by_cases hb : (c.length : Int) > 4096
  · exact Ev_ite_t hb (Ev.now _)
  · refine Ev_ite_f hb ?_
    have hbytes : ∀ x ∈ c, 0 ≤ x ∧ x ≤ 255 := fun x hx => wf8 (hw x hx)
    obtain ⟨a, s, hf, h0⟩ := from_ok c (by omega) hbytes
    obtain ⟨x, a1, s1, e1, g1, _, _⟩ := drawSide_ok h0
    obtain ⟨y, a2, s2, e2, g2, _, _⟩ := drawSide_ok g1
    have hd1 : Ev (fun k => spec_DrawSchemesOf.f k c) (mn 4 x, mn 4 y) := by
      unfold spec_DrawSchemesOf.f
      refine Ev.bind hf ?_
      rw [e1]
      refine Ev.bind (Ev.now _) ?_
      rw [e2]
      exact Ev.bind (Ev.now _) (Ev.now _)
    have hd2 : Ev (fun k => spec_DrawCountSchemes.f k c) (x, y) := by
      unfold spec_DrawCountSchemes.f
      refine Ev.bind hf ?_
      rw [e1]
      refine Ev.bind (Ev.now _) ?_
      rw [e2]
      exact Ev.bind (Ev.now _) (Ev.now _)
    obtain ⟨d, hd3, hd4⟩ : ∃ r : Int × Int × List SL, Ev (fun k => spec_DrawFindScheme.f k c) r ∧ r.2.2.length ≤ 64 := by
      obtain ⟨w, h, t, a', s', d1, d2, d3, _⟩ := drawSheet_ok h0
      unfold spec_DrawFindScheme.f
      by_cases hg : wrap64 (w * h) > 16
      · obtain ⟨r, r1, r2⟩ := drawFind_ok d2 4 4 (⟨#[76, 84, 76, 84]⟩ : ByteArray) (by decide)
        exact ⟨r, Ev.bind hf (Ev.bind d1 (Ev_ite_t hg r1)), r2⟩
      · obtain ⟨r, r1, r2⟩ := drawFind_ok d2 w h t d3
        exact ⟨r, Ev.bind hf (Ev.bind d1 (Ev_ite_f hg r1)), r2⟩
    have hx4 : mn 4 x ≤ 4 := by unfold mn; split <;> omega
    have hy4 : mn 4 y ≤ 4 := by unfold mn; split <;> omega
    generalize mn 4 x = w at hd1 hx4
    generalize mn 4 y = h at hd1 hy4
    have two : ∀ p q : Int, ∃ r : List ByteArray × Int, Ev (fun k => impl_SchemesOf.f k p q) r ∧ Ev (fun k => spec_SchemesOf.f k p q) r ∧ Ev (fun k => impl_CountSchemes.f k p q) ((r.1.length : Int), r.2) ∧ Ev (fun k => spec_CountSchemes.f k p q) ((r.1.length : Int), r.2) ∧ r.1.length ≤ 4096 ∧ (r.2 = 0 → ∃ i j : Nat, i ≤ 3 ∧ j ≤ 3 ∧ p = ((2 ^ i : Nat) : Int) ∧ q = ((2 ^ j : Nat) : Int) ∧ r.1 = schL (i + j) i j (⟨#[]⟩ : ByteArray)) := by
      intro p q
      obtain ⟨r, h1, h2, h3⟩ := implSchemes_ev p q
      refine ⟨r, h1, ?_, ?_, ?_, h2, ?_⟩
      · unfold spec_SchemesOf.f
        rcases h3 with ⟨i, j, _, _, _, _, s1, s2, rfl⟩ | ⟨s1, rfl⟩
        · rw [s1]; exact Ev.bind (Ev.now _) (Ev_ite_t rfl (Ev.bind s2 (Ev.now _)))
        · rw [s1]; exact Ev.bind (Ev.now _) (Ev_ite_f (by simp) (Ev.now _))
      · unfold impl_CountSchemes.f impl_length_string.f
        exact Ev.bind h1 (Ev.bind (Ev.now _) (Ev.now _))
      · unfold spec_CountSchemes.f
        rcases h3 with ⟨i, j, _, _, _, _, s1, s2, rfl⟩ | ⟨s1, rfl⟩
        · rw [s1]; exact Ev.bind (Ev.now _) (Ev_ite_t rfl (Ev.bind s2 (Ev.now _)))
        · rw [s1]; exact Ev.bind (Ev.now _) (Ev_ite_f (by simp) (Ev.now _))
      · intro z
        rcases h3 with ⟨i, j, i1, j1, p1, q1, _, _, rfl⟩ | ⟨_, rfl⟩
        · exact ⟨i, j, i1, j1, p1, q1, rfl⟩
        · cases z
    obtain ⟨r, r1, r2, r3, _, r5, r6⟩ := two w h
    obtain ⟨n, _, _, n3, n4, _⟩ := two x y
    obtain ⟨f, f1, f2, f3⟩ := findscheme_two d.1 d.2.1 d.2.2
    refine Ev.bind hd1 (Ev.bind r1 (Ev.bind r2 (Ev.bind hd2 (Ev.bind n3 (Ev.bind n4 (Ev.bind hd3 (Ev.bind f2 (Ev.bind f1 (Ev_ite_t rfl (Ev.bind (likeTexts_ev r.1 (by omega)) (Ev_ite_t rfl (Ev_ite_t rfl (Ev_ite_t rfl (Ev_ite_t rfl ?_))))))))))))))
    have hj1 : Ev (fun k => laws_FnSchemes.j1 k w h r.1 r.2) true := by
      by_cases hr : r.2 = 0
      · obtain ⟨i, j, i1, j1, p1, q1, hL⟩ := r6 hr
        have hi2 : i ≤ 2 := by
          rcases Nat.lt_or_ge i 3 with z | z
          · omega
          · have : 2 ^ 3 ≤ 2 ^ i := Nat.pow_le_pow_right (by omega) z
            rw [p1] at hx4
            omega
        have hj2 : j ≤ 2 := by
          rcases Nat.lt_or_ge j 3 with z | z
          · omega
          · have : 2 ^ 3 ≤ 2 ^ j := Nat.pow_le_pow_right (by omega) z
            rw [q1] at hy4
            omega
        have hadj : adjB r.1 = true := by rw [hL]; exact sch_adj ⟨i, by omega⟩ ⟨j, by omega⟩
        refine Ev.step (fun k => by rw [laws_FnSchemes.j1, if_pos hr]) ?_
        have loop : ∀ d m : Nat, m + d = r.1.length → Ev (fun k => laws_FnSchemes.l0 k w h r.1 (m : Int)) true := by
          intro d
          induction d with
          | zero =>
            intro m hm
            refine Ev.step (fun k => by rw [laws_FnSchemes.l0, if_neg (by omega)]) (Ev.bind r3 (Ev_ite_t hr ?_))
            exact Ev.congr (fun k => congrArg some (beq_self_eq_true _)) (Ev.now true)
          | succ d ih =>
            intro m hm
            have hml : m < r.1.length := by omega
            have hok : okSch w h r.1[m] := by
              have : r.1[m] ∈ schL (i + j) i j (⟨#[]⟩ : ByteArray) := by rw [← hL]; exact List.getElem_mem hml
              rw [p1, q1]
              exact schL_ok i1 j1 this
            refine Ev.step (fun k => by rw [laws_FnSchemes.l0, if_pos (by omega), if_pos (by omega), rdOf_get hml]) (Ev.bind (isScheme_ok hok) (Ev_ite_t rfl ?_))
            rw [w64n m (by omega)]
            have nx := ih (m + 1) (by omega)
            by_cases h0 : (m : Int) > 0
            · have hm1 : wrap64 ((m : Int) - 1) = ((m - 1 : Nat) : Int) := by rw [w64 (by omega) (by omega)]; omega
              have hlt : m - 1 < r.1.length := by omega
              have hlt2 : m - 1 + 1 < r.1.length := by omega
              have hless := adj_get r.1 (m - 1) hadj hlt2
              have he : r.1[m - 1 + 1] = r.1[m] := by congr 1; omega
              rw [he] at hless
              refine Ev_ite_t h0 ?_
              rw [hm1, rdOf_get hlt, ByteArray.toList_eq, ByteArray.toList_eq]
              exact Ev_ite_t (by omega) (Ev_ite_t (by omega) (Ev_ite_t hless nx))
            · exact Ev_ite_f h0 nx
        exact loop r.1.length 0 (by omega)
      · exact Ev.step (f := fun _ => some true) (fun k => by rw [laws_FnSchemes.j1, if_neg hr]) (Ev.now _)
    by_cases h0 : f.2 = 0
    · obtain ⟨hok, l, _, l2, l3⟩ := f3 h0
      refine Ev.step (fun k => by rw [laws_FnSchemes.j0, if_neg (by simp), if_pos h0]) ?_
      have hs : Ev (fun k => impl_FoldSheet.f k d.1 d.2.1 f.1) (l, 0) := by
        unfold impl_FoldSheet.f
        exact Ev.bind (code_ok hok) (Ev_ite_t rfl (Ev.bind l2 (Ev.now _)))
      rw [l3] at hs
      exact Ev.bind hs (Ev_ite_t rfl (Ev.bind (likeLeaves_ev d.2.2 (by omega)) (Ev_ite_t rfl hj1)))
    · exact Ev.step (fun k => by rw [laws_FnSchemes.j0, if_neg (by simp), if_neg h0]) hj1

end Go.Proofs.YtijbccmcfagnfaaDoor.Pure
