/- The pure statement of FnExactCountSchemes: for every input that the row lets in, the law's Lean function answers true; no further condition. -/
import Derived.Test.YtijbccmcfagnfaaQFnExactCountSchemesx2
set_option linter.unusedVariables false
set_option linter.unusedSimpArgs false
namespace Go.Proofs.Ytijbccmcfagnfaa.Pure
open Go.RowKit Go.Proofs.Ytijbccmcfagnfaa.QFnExactCountSchemes Go.Proofs.YtijbccmcfagnfaaW.PrintWords Go.Proofs.YtijbccmcfagnfaaW.PrintLast

theorem w64 {x : Int} (h0 : -9223372036854775808 ≤ x) (h1 : x ≤ 9223372036854775807) : wrap64 x = x := by unfold wrap64; omega
theorem wz : wrap64 0 = 0 := w64 (by omega) (by omega)
theorem w64_range (x : Int) : -9223372036854775808 ≤ wrap64 x ∧ wrap64 x ≤ 9223372036854775807 := by unfold wrap64; omega
theorem wf64 {x : Int} (h : (Lit.int .i64 x).wf = true) : -9223372036854775808 ≤ x ∧ x ≤ 9223372036854775807 := by
  have h' : (decide (IntKind.i64.min ≤ x) && decide (x ≤ IntKind.i64.max)) = true := h
  simp only [Bool.and_eq_true, decide_eq_true_eq] at h'
  exact h'
theorem wf8 {x : Int} (h : (Lit.int .u8 x).wf = true) : 0 ≤ x ∧ x ≤ 255 := by
  have h' : (decide (IntKind.u8.min ≤ x) && decide (x ≤ IntKind.u8.max)) = true := h
  simp only [Bool.and_eq_true, decide_eq_true_eq] at h'
  exact h'
theorem rd_get {xs : List Int} {i : Nat} (h : i < xs.length) : rd xs (i : Int) = xs[i] := by
  simp [rd, List.getD_eq_getElem?_getD, h]
theorem rd_nat (xs : List Int) (i : Nat) : rd xs (i : Int) = xs.getD i 0 := by simp [rd]
theorem rd_mem {xs : List Int} {i : Nat} (h : i < xs.length) : rd xs (i : Int) ∈ xs := by rw [rd_get h]; exact List.getElem_mem h
theorem rd_ext {xs ys : List Int} (hl : xs.length = ys.length) (h : ∀ i : Nat, i < xs.length → rd xs (i : Int) = rd ys (i : Int)) : xs = ys := by
  apply List.ext_getElem hl
  intro i h1 h2
  have := h i h1
  rwa [rd_get h1, rd_get h2] at this
theorem rd_set {xs : List Int} {i j : Nat} {v : Int} (hi : i < xs.length) : rd (xs.set i v) (j : Int) = if i = j then v else rd xs (j : Int) := by
  simp only [rd_nat, List.getD_eq_getElem?_getD, List.getElem?_set]
  by_cases h : i = j
  · subst h; simp [hi]
  · simp [h]
theorem rd_append_left {xs ys : List Int} {j : Nat} (h : j < xs.length) : rd (xs ++ ys) (j : Int) = rd xs (j : Int) := by
  simp only [rd_nat, List.getD_eq_getElem?_getD, List.getElem?_append_left h]
theorem rd_append_at {xs : List Int} {v : Int} : rd (xs ++ [v]) (xs.length : Int) = v := by
  simp [rd_nat, List.getD_eq_getElem?_getD]
theorem rd_take {xs : List Int} {i j : Nat} (h : j < i) : rd (xs.take i) (j : Int) = rd xs (j : Int) := by
  simp [rd_nat, List.getD_eq_getElem?_getD, List.getElem?_take, h]
theorem rd_drop {xs : List Int} {i j : Nat} : rd (xs.drop i) (j : Int) = rd xs ((i + j : Nat) : Int) := by
  simp only [rd_nat, List.getD_eq_getElem?_getD, List.getElem?_drop]
theorem toNat_cast (i : Nat) : ((i : Nat) : Int).toNat = i := Int.toNat_natCast i
theorem drop_cons {xs : List Int} {i : Nat} (h : i < xs.length) : xs.drop i = rd xs (i : Int) :: xs.drop (i + 1) := by
  rw [rd_get h]; exact List.drop_eq_getElem_cons h
theorem Ev_ite_t {α : Type} {c : Prop} [Decidable c] {f g : Nat → Option α} {r : α} (h : c) (k : Ev f r) : Ev (fun n => if c then f n else g n) r :=
  Ev.congr (fun _ => if_pos h) k
theorem Ev_ite_f {α : Type} {c : Prop} [Decidable c] {f g : Nat → Option α} {r : α} (h : ¬ c) (k : Ev g r) : Ev (fun n => if c then f n else g n) r :=
  Ev.congr (fun _ => if_neg h) k
theorem w64n (i : Nat) (h : i < 9223372036854775807) : wrap64 ((i : Int) + 1) = ((i + 1 : Nat) : Int) := by
  rw [w64 (by omega) (by omega)]; rfl
theorem wrap_add_wrap (a b : Int) : wrap64 (wrap64 a + b) = wrap64 (a + b) := by unfold wrap64; omega
theorem wrap_add_wrap' (a b : Int) : wrap64 (a + wrap64 b) = wrap64 (a + b) := by unfold wrap64; omega
theorem EvE_bind {α β : Type} {g : Nat → Option α} {f : Nat → α → Option β} {a : α} (h : Ev g a) (k : ∃ r, Ev (fun n => f n a) r) : ∃ r, Ev (fun n => (g n).bind (f n)) r := by
  obtain ⟨r, k⟩ := k
  exact ⟨r, Ev.bind h k⟩
theorem EvE_now {α : Type} (a : α) : ∃ r, Ev (fun _ : Nat => some a) r := ⟨a, Ev.now a⟩
theorem EvE_ite_t {α : Type} {c : Prop} [Decidable c] {f g : Nat → Option α} (h : c) (k : ∃ r, Ev f r) : ∃ r, Ev (fun n => if c then f n else g n) r := by
  obtain ⟨r, k⟩ := k
  exact ⟨r, Ev_ite_t h k⟩
theorem EvE_ite_f {α : Type} {c : Prop} [Decidable c] {f g : Nat → Option α} (h : ¬ c) (k : ∃ r, Ev g r) : ∃ r, Ev (fun n => if c then f n else g n) r := by
  obtain ⟨r, k⟩ := k
  exact ⟨r, Ev_ite_f h k⟩
theorem side_cases (a : Int) : (∃ j : Nat, j ≤ 3 ∧ a = ((2 ^ j : Nat) : Int) ∧ spec_l04Power.f a = some ((j : Int), true) ∧ impl_isSide.f a = some true ∧ Ev (fun k => impl_halvings.f k a) (j : Int)) ∨ (spec_l04Power.f a = some (0, false) ∧ impl_isSide.f a = some false) := by
  by_cases h1 : a = 1
  · subst h1; exact .inl ⟨0, by decide, by decide, by decide +kernel, by decide +kernel, Ev.of (impl_halvings.mono _) (k := 10) (by decide +kernel)⟩
  by_cases h2 : a = 2
  · subst h2; exact .inl ⟨1, by decide, by decide, by decide +kernel, by decide +kernel, Ev.of (impl_halvings.mono _) (k := 10) (by decide +kernel)⟩
  by_cases h4 : a = 4
  · subst h4; exact .inl ⟨2, by decide, by decide, by decide +kernel, by decide +kernel, Ev.of (impl_halvings.mono _) (k := 10) (by decide +kernel)⟩
  by_cases h8 : a = 8
  · subst h8; exact .inl ⟨3, by decide, by decide, by decide +kernel, by decide +kernel, Ev.of (impl_halvings.mono _) (k := 10) (by decide +kernel)⟩
  · refine .inr ⟨?_, ?_⟩
    · unfold spec_l04Power.f
      rw [if_neg h1, if_neg h2, if_neg h4, if_neg h8]
    · unfold impl_isSide.f
      rw [if_neg h1, if_neg h2, if_neg h4, show (a == 8) = false from beq_false_of_ne h8]
theorem sheet_cases (a b : Int) : (∃ i j : Nat, i ≤ 3 ∧ j ≤ 3 ∧ a = ((2 ^ i : Nat) : Int) ∧ b = ((2 ^ j : Nat) : Int) ∧ spec_l04Power.f a = some ((i : Int), true) ∧ spec_l04Power.f b = some ((j : Int), true) ∧ spec_l04Sheet.f a b = some true ∧ impl_isSheet.f a b = some true ∧ Ev (fun k => impl_halvings.f k a) (i : Int) ∧ Ev (fun k => impl_halvings.f k b) (j : Int)) ∨ (spec_l04Sheet.f a b = some false ∧ impl_isSheet.f a b = some false) := by
  unfold spec_l04Sheet.f impl_isSheet.f
  rcases side_cases a with ⟨i, i1, i2, i3, i4, i5⟩ | ⟨i3, i4⟩
  · rcases side_cases b with ⟨j, j1, j2, j3, j4, j5⟩ | ⟨j3, j4⟩
    · exact .inl ⟨i, j, i1, j1, i2, j2, i3, j3, by rw [i3, j3]; rfl, by rw [i4, j4]; rfl, i5, j5⟩
    · exact .inr ⟨by rw [i3, j3]; rfl, by rw [i4, j4]; rfl⟩
  · refine .inr ⟨?_, by rw [i4]; rfl⟩
    rw [i3]
    rcases side_cases b with ⟨j, j1, j2, j3, j4, j5⟩ | ⟨j3, j4⟩
    · rw [j3]; rfl
    · rw [j3]; rfl
theorem schP_len (n a c : Nat) (d : ByteArray) (ch : UInt8) (h : ∀ a c d, (schL n a c d).length ≤ 4 ^ n) : (schP (schL n) a c d ch).length ≤ 4 ^ n := by
  have hp : 0 < 4 ^ n := Nat.pow_pos (by omega)
  unfold schP
  split
  · split
    · exact h _ _ _
    · simp
  · split
    · exact h _ _ _
    · simp
theorem schL_len : ∀ (n a c : Nat) (d : ByteArray), (schL n a c d).length ≤ 4 ^ n
  | 0, a, c, d => by simp [schL]
  | n + 1, a, c, d => by
    have h1 := schP_len n a c d 66 (schL_len n)
    have h2 := schP_len n a c d 76 (schL_len n)
    have h3 := schP_len n a c d 82 (schL_len n)
    have h4 := schP_len n a c d 84 (schL_len n)
    rw [schL, Nat.pow_succ]
    simp only [List.length_append, List.length_nil]
    omega
theorem schL_len6 {n : Nat} (h : n ≤ 6) (a c : Nat) (d : ByteArray) : (schL n a c d).length ≤ 4096 := Nat.le_trans (schL_len n a c d) (Nat.le_trans (Nat.pow_le_pow_right (by omega) h) (by decide))
theorem schP_len6 {n : Nat} (h : n ≤ 6) (a c : Nat) (d : ByteArray) (ch : UInt8) : (schP (schL n) a c d ch).length ≤ 4096 := Nat.le_trans (schP_len n a c d ch (schL_len n)) (Nat.le_trans (Nat.pow_le_pow_right (by omega) h) (by decide))
theorem schP_66 (f : Nat → Nat → ByteArray → List ByteArray) (a c : Nat) (d : ByteArray) : schP f a c d 66 = if 0 < c then f a (c - 1) (d ++ (⟨#[66]⟩ : ByteArray)) else [] := by unfold schP; simp
theorem schP_84 (f : Nat → Nat → ByteArray → List ByteArray) (a c : Nat) (d : ByteArray) : schP f a c d 84 = if 0 < c then f a (c - 1) (d ++ (⟨#[84]⟩ : ByteArray)) else [] := by unfold schP; simp
theorem schP_76 (f : Nat → Nat → ByteArray → List ByteArray) (a c : Nat) (d : ByteArray) : schP f a c d 76 = if 0 < a then f (a - 1) c (d ++ (⟨#[76]⟩ : ByteArray)) else [] := by unfold schP; simp
theorem schP_82 (f : Nat → Nat → ByteArray → List ByteArray) (a c : Nat) (d : ByteArray) : schP f a c d 82 = if 0 < a then f (a - 1) c (d ++ (⟨#[82]⟩ : ByteArray)) else [] := by unfold schP; simp
theorem size_one (d : ByteArray) (c : UInt8) : (d ++ (⟨#[c]⟩ : ByteArray)).size = d.size + 1 := by rw [ByteArray.size_append]; rfl
theorem schemes_ev : ∀ (n : Nat), n ≤ 6 → ∀ (a c : Nat) (d : ByteArray), a + c = n → d.size + n ≤ 100 → Ev (fun k => spec_l04Schemes.f k d (a : Int) (c : Int)) (schL n a c d) := by
  intro n
  induction n with
  | zero =>
    intro _ a c d h hd
    obtain rfl : a = 0 := by omega
    obtain rfl : c = 0 := by omega
    refine Ev.step (f := fun k => spec_l04Schemes.j0 k d ((0 : Nat) : Int) ((0 : Nat) : Int) (((0 : Nat) : Int) == 0)) (fun k => by rw [spec_l04Schemes.f, if_pos (by rfl)]) ?_
    exact Ev.step (f := fun _ => some [d]) (fun k => by rw [spec_l04Schemes.j0, if_pos (by rfl)]) (Ev.now _)
  | succ n ih =>
    intro hn a c d h hd
    have hz : ∀ ch : UInt8, (d ++ (⟨#[ch]⟩ : ByteArray)).size + n ≤ 100 := fun ch => by rw [size_one]; omega
    have ihc : 0 < c → ∀ ch : UInt8, Ev (fun k => spec_l04Schemes.f k (d ++ (⟨#[ch]⟩ : ByteArray)) (a : Int) (wrap64 ((c : Int) - 1))) (schL n a (c - 1) (d ++ (⟨#[ch]⟩ : ByteArray))) := fun hc ch => by
      have := ih (by omega) a (c - 1) _ (by omega) (hz ch)
      rw [w64 (by omega) (by omega), show (c : Int) - 1 = ((c - 1 : Nat) : Int) by omega]
      exact this
    have iha : 0 < a → ∀ ch : UInt8, Ev (fun k => spec_l04Schemes.f k (d ++ (⟨#[ch]⟩ : ByteArray)) (wrap64 ((a : Int) - 1)) (c : Int)) (schL n (a - 1) c (d ++ (⟨#[ch]⟩ : ByteArray))) := fun ha ch => by
      have := ih (by omega) (a - 1) c _ (by omega) (hz ch)
      rw [w64 (by omega) (by omega), show (a : Int) - 1 = ((a - 1 : Nat) : Int) by omega]
      exact this
    have l66 := schP_len6 (n := n) (by omega) a c d 66
    have l76 := schP_len6 (n := n) (by omega) a c d 76
    have l82 := schP_len6 (n := n) (by omega) a c d 82
    have l84 := schP_len6 (n := n) (by omega) a c d 84
    have j1 : ∀ x : List ByteArray, x.length ≤ 4096 → Ev (fun k => spec_l04Schemes.j1 k d (a : Int) (c : Int) x) (x ++ (schP (schL n) a c d 76 ++ (schP (schL n) a c d 82 ++ (schP (schL n) a c d 84 ++ [])))) := by
      intro x hx
      rw [List.append_nil]
      by_cases ha : 0 < a
      · rw [schP_76, if_pos ha] at l76 ⊢
        rw [schP_82, if_pos ha] at l82 ⊢
        refine Ev.step (fun k => by rw [spec_l04Schemes.j1, if_pos (by omega), if_pos (by omega)]) ?_
        refine Ev.bind (iha ha 76) ?_
        refine Ev_ite_t (by omega) ?_
        refine Ev.bind (Ev.now _) ?_
        refine Ev.bind (iha ha 82) ?_
        refine Ev_ite_t (by rw [List.length_append]; omega) ?_
        refine Ev.bind (Ev.now _) ?_
        by_cases hc : 0 < c
        · rw [schP_84, if_pos hc] at l84 ⊢
          refine Ev_ite_t (by omega) ?_
          refine Ev.bind (ihc hc 84) ?_
          refine Ev_ite_t (by rw [List.length_append, List.length_append]; omega) ?_
          rw [← List.append_assoc, ← List.append_assoc]
          exact Ev.now _
        · rw [schP_84, if_neg hc, List.append_nil, ← List.append_assoc]
          exact Ev_ite_f (by omega) (Ev.now _)
      · rw [schP_76, if_neg ha, schP_82, if_neg ha, List.nil_append, List.nil_append]
        by_cases hc : 0 < c
        · rw [schP_84, if_pos hc] at l84 ⊢
          refine Ev.step (fun k => by rw [spec_l04Schemes.j1, if_neg (by omega), if_pos (by omega), if_pos (by omega)]) ?_
          refine Ev.bind (ihc hc 84) ?_
          refine Ev_ite_t (by omega) ?_
          exact Ev.now _
        · omega
    have j0 : Ev (fun k => spec_l04Schemes.j0 k d (a : Int) (c : Int) false) (schL (n + 1) a c d) := by
      rw [schL]
      by_cases hc : 0 < c
      · rw [schP_66, if_pos hc] at l66 ⊢
        refine Ev.step (fun k => by rw [spec_l04Schemes.j0, if_neg (by simp)]) ?_
        refine Ev.bind (Ev.now _) ?_
        refine Ev_ite_t (by omega) ?_
        refine Ev_ite_t (by omega) ?_
        refine Ev.bind (ihc hc 66) ?_
        refine Ev_ite_t (by rw [List.length_nil]; omega) ?_
        rw [List.nil_append]
        exact j1 _ l66
      · rw [schP_66, if_neg hc]
        refine Ev.step (fun k => by rw [spec_l04Schemes.j0, if_neg (by simp)]) ?_
        refine Ev.bind (Ev.now _) ?_
        refine Ev_ite_f (by omega) ?_
        exact j1 [] (by simp)
    by_cases ha : (a : Int) = 0
    · refine Ev.step (f := fun k => spec_l04Schemes.j0 k d (a : Int) (c : Int) ((c : Int) == 0)) (fun k => by rw [spec_l04Schemes.f, if_pos ha]) ?_
      rw [show ((c : Int) == 0) = false from beq_false_of_ne (by omega)]
      exact j0
    · exact Ev.step (fun k => by rw [spec_l04Schemes.f, if_neg ha]) j0
theorem specAll_ev {a b : Int} {i j : Nat} (h1 : spec_l04Power.f a = some ((i : Int), true)) (h2 : spec_l04Power.f b = some ((j : Int), true)) (hi : i ≤ 3) (hj : j ≤ 3) : Ev (fun k => spec_l04All.f k a b) (schL (i + j) i j (⟨#[]⟩ : ByteArray)) := by
  unfold spec_l04All.f
  rw [h1, h2]
  exact Ev.bind (Ev.now _) (Ev.bind (Ev.now _) (Ev.bind (schemes_ev (i + j) (by omega) i j (⟨#[]⟩ : ByteArray) rfl (by show 0 + (i + j) ≤ 100; omega)) (Ev.now _)))
theorem implSchemes_ev (a b : Int) : ∃ r : List ByteArray × Int, Ev (fun k => impl_SchemesOf.f k a b) r ∧ r.1.length ≤ 4096 ∧ ((∃ i j : Nat, i ≤ 3 ∧ j ≤ 3 ∧ a = ((2 ^ i : Nat) : Int) ∧ b = ((2 ^ j : Nat) : Int) ∧ spec_l04Sheet.f a b = some true ∧ Ev (fun k => spec_l04All.f k a b) r.1 ∧ r = (schL (i + j) i j (⟨#[]⟩ : ByteArray), 0)) ∨ (spec_l04Sheet.f a b = some false ∧ r = ([], 1))) := by
  unfold impl_SchemesOf.f
  rcases sheet_cases a b with ⟨i, j, i1, j1, a1, b1, i3, j3, s1, s2, i5, j5⟩ | ⟨s1, s2⟩
  · have hl := schL_len6 (n := i + j) (by omega) i j (⟨#[]⟩ : ByteArray)
    refine ⟨(schL (i + j) i j (⟨#[]⟩ : ByteArray), 0), ?_, hl, .inl ⟨i, j, i1, j1, a1, b1, s1, specAll_ev i3 j3 i1 j1, rfl⟩⟩
    rw [s2]
    refine Ev.bind (Ev.now _) (Ev_ite_t rfl (Ev.bind i5 (Ev.bind j5 (Ev_ite_t ?_ (Ev.now _)))))
    rw [Int.toNat_natCast, Int.toNat_natCast]
    exact ⟨by omega, by omega, by omega, by omega, by omega⟩
  · refine ⟨([], 1), ?_, by simp, .inr ⟨s1, rfl⟩⟩
    rw [s2]
    exact Ev.bind (Ev.now _) (Ev_ite_f (by simp) (Ev.now _))
theorem FnExactCountSchemes : laws_FnExactCountSchemes.Pure := by
  intro a b ha hb
  apply Ev.rounds
  unfold laws_FnExactCountSchemes.f
  obtain ⟨r, h1, h2, h3⟩ := implSchemes_ev a b
  have hs : Ev (fun k => spec_CountSchemes.f k a b) ((r.1.length : Int), r.2) := by
    unfold spec_CountSchemes.f
    rcases h3 with ⟨i, j, _, _, _, _, s1, s2, rfl⟩ | ⟨s1, rfl⟩
    · rw [s1]; exact Ev.bind (Ev.now _) (Ev_ite_t rfl (Ev.bind s2 (Ev.now _)))
    · rw [s1]; exact Ev.bind (Ev.now _) (Ev_ite_f (by simp) (Ev.now _))
  have hi : Ev (fun k => impl_CountSchemes.f k a b) ((r.1.length : Int), r.2) := by
    unfold impl_CountSchemes.f impl_length_string.f
    exact Ev.bind h1 (Ev.bind (Ev.now _) (Ev.now _))
  exact Ev.bind hs (Ev.bind hi (Ev_ite_t rfl (Ev_ite_t rfl (Ev.now _))))

end Go.Proofs.Ytijbccmcfagnfaa.Pure
