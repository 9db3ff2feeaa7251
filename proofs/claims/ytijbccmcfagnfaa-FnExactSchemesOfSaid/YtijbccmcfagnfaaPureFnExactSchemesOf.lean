/- The pure statement of FnExactSchemesOf: for every input that the row lets in, the law's Lean function answers true; no further condition. -/
import Derived.Test.YtijbccmcfagnfaaQFnExactSchemesOfx3
set_option linter.unusedVariables false
set_option linter.unusedSimpArgs false
namespace Go.Proofs.Ytijbccmcfagnfaa.Pure
open Go.RowKit Go.Proofs.Ytijbccmcfagnfaa.QFnExactSchemesOf Go.Proofs.YtijbccmcfagnfaaW.PrintWords Go.Proofs.YtijbccmcfagnfaaW.PrintLast

theorem w64 {x : Int} (h0 : -9223372036854775808 ≤ x) (h1 : x ≤ 9223372036854775807) : wrap64 x = x := by unfold wrap64; omega
theorem wz : wrap64 0 = 0 := w64 (by omega) (by omega)
theorem w64_range (x : Int) : -9223372036854775808 ≤ wrap64 x ∧ wrap64 x ≤ 9223372036854775807 := by unfold wrap64; omega
theorem wf64 {x : Int} (h : (Lit.int .i64 x).wf = true) : -9223372036854775808 ≤ x ∧ x ≤ 9223372036854775807 := by
  have h' : (decide (IntKind.i64.min ≤ x) && decide (x ≤ IntKind.i64.max)) = true := h
  simp only [Bool.and_eq_true, decide_eq_true_eq] at h'
  exact h'
theorem wf8 {x : Int} (h : (Lit.int .u8 x).wf = true) : 0 ≤ x ∧ x ≤ 255 := by
  have h' : (decide (IntKind.u8.min ≤ x) && decide (x ≤ IntKind.u8.max)) = true := h
  simp only [Bool.and_eq_true, decide_eq_true_eq] at h'
  exact h'
theorem rd_get {xs : List Int} {i : Nat} (h : i < xs.length) : rd xs (i : Int) = xs[i] := by
  simp [rd, List.getD_eq_getElem?_getD, h]
theorem rd_nat (xs : List Int) (i : Nat) : rd xs (i : Int) = xs.getD i 0 := by simp [rd]
theorem rd_mem {xs : List Int} {i : Nat} (h : i < xs.length) : rd xs (i : Int) ∈ xs := by rw [rd_get h]; exact List.getElem_mem h
theorem rd_ext {xs ys : List Int} (hl : xs.length = ys.length) (h : ∀ i : Nat, i < xs.length → rd xs (i : Int) = rd ys (i : Int)) : xs = ys := by
  apply List.ext_getElem hl
  intro i h1 h2
  have := h i h1
  rwa [rd_get h1, rd_get h2] at this
theorem rd_set {xs : List Int} {i j : Nat} {v : Int} (hi : i < xs.length) : rd (xs.set i v) (j : Int) = if i = j then v else rd xs (j : Int) := by
  simp only [rd_nat, List.getD_eq_getElem?_getD, List.getElem?_set]
  by_cases h : i = j
  · subst h; simp [hi]
  · simp [h]
theorem rd_append_left {xs ys : List Int} {j : Nat} (h : j < xs.length) : rd (xs ++ ys) (j : Int) = rd xs (j : Int) := by
  simp only [rd_nat, List.getD_eq_getElem?_getD, List.getElem?_append_left h]
theorem rd_append_at {xs : List Int} {v : Int} : rd (xs ++ [v]) (xs.length : Int) = v := by
  simp [rd_nat, List.getD_eq_getElem?_getD]
theorem rd_take {xs : List Int} {i j : Nat} (h : j < i) : rd (xs.take i) (j : Int) = rd xs (j : Int) := by
  simp [rd_nat, List.getD_eq_getElem?_getD, List.getElem?_take, h]
theorem rd_drop {xs : List Int} {i j : Nat} : rd (xs.drop i) (j : Int) = rd xs ((i + j : Nat) : Int) := by
  simp only [rd_nat, List.getD_eq_getElem?_getD, List.getElem?_drop]
theorem toNat_cast (i : Nat) : ((i : Nat) : Int).toNat = i := Int.toNat_natCast i
theorem drop_cons {xs : List Int} {i : Nat} (h : i < xs.length) : xs.drop i = rd xs (i : Int) :: xs.drop (i + 1) := by
  rw [rd_get h]; exact List.drop_eq_getElem_cons h
theorem Ev_ite_t {α : Type} {c : Prop} [Decidable c] {f g : Nat → Option α} {r : α} (h : c) (k : Ev f r) : Ev (fun n => if c then f n else g n) r :=
  Ev.congr (fun _ => if_pos h) k
theorem Ev_ite_f {α : Type} {c : Prop} [Decidable c] {f g : Nat → Option α} {r : α} (h : ¬ c) (k : Ev g r) : Ev (fun n => if c then f n else g n) r :=
  Ev.congr (fun _ => if_neg h) k
theorem w64n (i : Nat) (h : i < 9223372036854775807) : wrap64 ((i : Int) + 1) = ((i + 1 : Nat) : Int) := by
  rw [w64 (by omega) (by omega)]; rfl
theorem wrap_add_wrap (a b : Int) : wrap64 (wrap64 a + b) = wrap64 (a + b) := by unfold wrap64; omega
theorem wrap_add_wrap' (a b : Int) : wrap64 (a + wrap64 b) = wrap64 (a + b) := by unfold wrap64; omega
theorem EvE_bind {α β : Type} {g : Nat → Option α} {f : Nat → α → Option β} {a : α} (h : Ev g a) (k : ∃ r, Ev (fun n => f n a) r) : ∃ r, Ev (fun n => (g n).bind (f n)) r := by
  obtain ⟨r, k⟩ := k
  exact ⟨r, Ev.bind h k⟩
theorem EvE_now {α : Type} (a : α) : ∃ r, Ev (fun _ : Nat => some a) r := ⟨a, Ev.now a⟩
theorem EvE_ite_t {α : Type} {c : Prop} [Decidable c] {f g : Nat → Option α} (h : c) (k : ∃ r, Ev f r) : ∃ r, Ev (fun n => if c then f n else g n) r := by
  obtain ⟨r, k⟩ := k
  exact ⟨r, Ev_ite_t h k⟩
theorem EvE_ite_f {α : Type} {c : Prop} [Decidable c] {f g : Nat → Option α} (h : ¬ c) (k : ∃ r, Ev g r) : ∃ r, Ev (fun n => if c then f n else g n) r := by
  obtain ⟨r, k⟩ := k
  exact ⟨r, Ev_ite_f h k⟩
theorem side_cases (a : Int) : (∃ j : Nat, j ≤ 3 ∧ a = ((2 ^ j : Nat) : Int) ∧ spec_l04Power.f a = some ((j : Int), true) ∧ impl_isSide.f a = some true ∧ Ev (fun k => impl_halvings.f k a) (j : Int)) ∨ (spec_l04Power.f a = some (0, false) ∧ impl_isSide.f a = some false) := by
  by_cases h1 : a = 1
  · subst h1; exact .inl ⟨0, by decide, by decide, by decide +kernel, by decide +kernel, Ev.of (impl_halvings.mono _) (k := 10) (by decide +kernel)⟩
  by_cases h2 : a = 2
  · subst h2; exact .inl ⟨1, by decide, by decide, by decide +kernel, by decide +kernel, Ev.of (impl_halvings.mono _) (k := 10) (by decide +kernel)⟩
  by_cases h4 : a = 4
  · subst h4; exact .inl ⟨2, by decide, by decide, by decide +kernel, by decide +kernel, Ev.of (impl_halvings.mono _) (k := 10) (by decide +kernel)⟩
  by_cases h8 : a = 8
  · subst h8; exact .inl ⟨3, by decide, by decide, by decide +kernel, by decide +kernel, Ev.of (impl_halvings.mono _) (k := 10) (by decide +kernel)⟩
  · refine .inr ⟨?_, ?_⟩
    · unfold spec_l04Power.f
      rw [if_neg h1, if_neg h2, if_neg h4, if_neg h8]
    · unfold impl_isSide.f
      rw [if_neg h1, if_neg h2, if_neg h4, show (a == 8) = false from beq_false_of_ne h8]
theorem sheet_cases (a b : Int) : (∃ i j : Nat, i ≤ 3 ∧ j ≤ 3 ∧ a = ((2 ^ i : Nat) : Int) ∧ b = ((2 ^ j : Nat) : Int) ∧ spec_l04Power.f a = some ((i : Int), true) ∧ spec_l04Power.f b = some ((j : Int), true) ∧ spec_l04Sheet.f a b = some true ∧ impl_isSheet.f a b = some true ∧ Ev (fun k => impl_halvings.f k a) (i : Int) ∧ Ev (fun k => impl_halvings.f k b) (j : Int)) ∨ (spec_l04Sheet.f a b = some false ∧ impl_isSheet.f a b = some false) := by
  unfold spec_l04Sheet.f impl_isSheet.f
  rcases side_cases a with ⟨i, i1, i2, i3, i4, i5⟩ | ⟨i3, i4⟩
  · rcases side_cases b with ⟨j, j1, j2, j3, j4, j5⟩ | ⟨j3, j4⟩
    · exact .inl ⟨i, j, i1, j1, i2, j2, i3, j3, by rw [i3, j3]; rfl, by rw [i4, j4]; rfl, i5, j5⟩
    · exact .inr ⟨by rw [i3, j3]; rfl, by rw [i4, j4]; rfl⟩
  · refine .inr ⟨?_, by rw [i4]; rfl⟩
    rw [i3]
    rcases side_cases b with ⟨j, j1, j2, j3, j4, j5⟩ | ⟨j3, j4⟩
    · rw [j3]; rfl
    · rw [j3]; rfl
theorem schP_len (n a c : Nat) (d : ByteArray) (ch : UInt8) (h : ∀ a c d, (schL n a c d).length ≤ 4 ^ n) : (schP (schL n) a c d ch).length ≤ 4 ^ n := by
  have hp : 0 < 4 ^ n := Nat.pow_pos (by omega)
  unfold schP
  split
  · split
    · exact h _ _ _
    · simp
  · split
    · exact h _ _ _
    · simp
theorem schL_len : ∀ (n a c : Nat) (d : ByteArray), (schL n a c d).length ≤ 4 ^ n
  | 0, a, c, d => by simp [schL]
  | n + 1, a, c, d => by
    have h1 := schP_len n a c d 66 (schL_len n)
    have h2 := schP_len n a c d 76 (schL_len n)
    have h3 := schP_len n a c d 82 (schL_len n)
    have h4 := schP_len n a c d 84 (schL_len n)
    rw [schL, Nat.pow_succ]
    simp only [List.length_append, List.length_nil]
    omega
theorem schL_len6 {n : Nat} (h : n ≤ 6) (a c : Nat) (d : ByteArray) : (schL n a c d).length ≤ 4096 := Nat.le_trans (schL_len n a c d) (Nat.le_trans (Nat.pow_le_pow_right (by omega) h) (by decide))
theorem schP_len6 {n : Nat} (h : n ≤ 6) (a c : Nat) (d : ByteArray) (ch : UInt8) : (schP (schL n) a c d ch).length ≤ 4096 := Nat.le_trans (schP_len n a c d ch (schL_len n)) (Nat.le_trans (Nat.pow_le_pow_right (by omega) h) (by decide))
theorem schP_66 (f : Nat → Nat → ByteArray → List ByteArray) (a c : Nat) (d : ByteArray) : schP f a c d 66 = if 0 < c then f a (c - 1) (d ++ (⟨#[66]⟩ : ByteArray)) else [] := by unfold schP; simp
theorem schP_84 (f : Nat → Nat → ByteArray → List ByteArray) (a c : Nat) (d : ByteArray) : schP f a c d 84 = if 0 < c then f a (c - 1) (d ++ (⟨#[84]⟩ : ByteArray)) else [] := by unfold schP; simp
theorem schP_76 (f : Nat → Nat → ByteArray → List ByteArray) (a c : Nat) (d : ByteArray) : schP f a c d 76 = if 0 < a then f (a - 1) c (d ++ (⟨#[76]⟩ : ByteArray)) else [] := by unfold schP; simp
theorem schP_82 (f : Nat → Nat → ByteArray → List ByteArray) (a c : Nat) (d : ByteArray) : schP f a c d 82 = if 0 < a then f (a - 1) c (d ++ (⟨#[82]⟩ : ByteArray)) else [] := by unfold schP; simp
theorem size_one (d : ByteArray) (c : UInt8) : (d ++ (⟨#[c]⟩ : ByteArray)).size = d.size + 1 := by rw [ByteArray.size_append]; rfl
theorem schemes_ev : ∀ (n : Nat), n ≤ 6 → ∀ (a c : Nat) (d : ByteArray), a + c = n → d.size + n ≤ 100 → Ev (fun k => spec_l04Schemes.f k d (a : Int) (c : Int)) (schL n a c d) := by
  intro n
  induction n with
  | zero =>
    intro _ a c d h hd
    obtain rfl : a = 0 := by omega
    obtain rfl : c = 0 := by omega
    refine Ev.step (f := fun k => spec_l04Schemes.j0 k d ((0 : Nat) : Int) ((0 : Nat) : Int) (((0 : Nat) : Int) == 0)) (fun k => by rw [spec_l04Schemes.f, if_pos (by rfl)]) ?_
    exact Ev.step (f := fun _ => some [d]) (fun k => by rw [spec_l04Schemes.j0, if_pos (by rfl)]) (Ev.now _)
  | succ n ih =>
    intro hn a c d h hd
    have hz : ∀ ch : UInt8, (d ++ (⟨#[ch]⟩ : ByteArray)).size + n ≤ 100 := fun ch => by rw [size_one]; omega
    have ihc : 0 < c → ∀ ch : UInt8, Ev (fun k => spec_l04Schemes.f k (d ++ (⟨#[ch]⟩ : ByteArray)) (a : Int) (wrap64 ((c : Int) - 1))) (schL n a (c - 1) (d ++ (⟨#[ch]⟩ : ByteArray))) := fun hc ch => by
      have := ih (by omega) a (c - 1) _ (by omega) (hz ch)
      rw [w64 (by omega) (by omega), show (c : Int) - 1 = ((c - 1 : Nat) : Int) by omega]
      exact this
    have iha : 0 < a → ∀ ch : UInt8, Ev (fun k => spec_l04Schemes.f k (d ++ (⟨#[ch]⟩ : ByteArray)) (wrap64 ((a : Int) - 1)) (c : Int)) (schL n (a - 1) c (d ++ (⟨#[ch]⟩ : ByteArray))) := fun ha ch => by
      have := ih (by omega) (a - 1) c _ (by omega) (hz ch)
      rw [w64 (by omega) (by omega), show (a : Int) - 1 = ((a - 1 : Nat) : Int) by omega]
      exact this
    have l66 := schP_len6 (n := n) (by omega) a c d 66
    have l76 := schP_len6 (n := n) (by omega) a c d 76
    have l82 := schP_len6 (n := n) (by omega) a c d 82
    have l84 := schP_len6 (n := n) (by omega) a c d 84
    have j1 : ∀ x : List ByteArray, x.length ≤ 4096 → Ev (fun k => spec_l04Schemes.j1 k d (a : Int) (c : Int) x) (x ++ (schP (schL n) a c d 76 ++ (schP (schL n) a c d 82 ++ (schP (schL n) a c d 84 ++ [])))) := by
      intro x hx
      rw [List.append_nil]
      by_cases ha : 0 < a
      · rw [schP_76, if_pos ha] at l76 ⊢
        rw [schP_82, if_pos ha] at l82 ⊢
        refine Ev.step (fun k => by rw [spec_l04Schemes.j1, if_pos (by omega), if_pos (by omega)]) ?_
        refine Ev.bind (iha ha 76) ?_
        refine Ev_ite_t (by omega) ?_
        refine Ev.bind (Ev.now _) ?_
        refine Ev.bind (iha ha 82) ?_
        refine Ev_ite_t (by rw [List.length_append]; omega) ?_
        refine Ev.bind (Ev.now _) ?_
        by_cases hc : 0 < c
        · rw [schP_84, if_pos hc] at l84 ⊢
          refine Ev_ite_t (by omega) ?_
          refine Ev.bind (ihc hc 84) ?_
          refine Ev_ite_t (by rw [List.length_append, List.length_append]; omega) ?_
          rw [← List.append_assoc, ← List.append_assoc]
          exact Ev.now _
        · rw [schP_84, if_neg hc, List.append_nil, ← List.append_assoc]
          exact Ev_ite_f (by omega) (Ev.now _)
      · rw [schP_76, if_neg ha, schP_82, if_neg ha, List.nil_append, List.nil_append]
        by_cases hc : 0 < c
        · rw [schP_84, if_pos hc] at l84 ⊢
          refine Ev.step (fun k => by rw [spec_l04Schemes.j1, if_neg (by omega), if_pos (by omega), if_pos (by omega)]) ?_
          refine Ev.bind (ihc hc 84) ?_
          refine Ev_ite_t (by omega) ?_
          exact Ev.now _
        · omega
    have j0 : Ev (fun k => spec_l04Schemes.j0 k d (a : Int) (c : Int) false) (schL (n + 1) a c d) := by
      rw [schL]
      by_cases hc : 0 < c
      · rw [schP_66, if_pos hc] at l66 ⊢
        refine Ev.step (fun k => by rw [spec_l04Schemes.j0, if_neg (by simp)]) ?_
        refine Ev.bind (Ev.now _) ?_
        refine Ev_ite_t (by omega) ?_
        refine Ev_ite_t (by omega) ?_
        refine Ev.bind (ihc hc 66) ?_
        refine Ev_ite_t (by rw [List.length_nil]; omega) ?_
        rw [List.nil_append]
        exact j1 _ l66
      · rw [schP_66, if_neg hc]
        refine Ev.step (fun k => by rw [spec_l04Schemes.j0, if_neg (by simp)]) ?_
        refine Ev.bind (Ev.now _) ?_
        refine Ev_ite_f (by omega) ?_
        exact j1 [] (by simp)
    by_cases ha : (a : Int) = 0
    · refine Ev.step (f := fun k => spec_l04Schemes.j0 k d (a : Int) (c : Int) ((c : Int) == 0)) (fun k => by rw [spec_l04Schemes.f, if_pos ha]) ?_
      rw [show ((c : Int) == 0) = false from beq_false_of_ne (by omega)]
      exact j0
    · exact Ev.step (fun k => by rw [spec_l04Schemes.f, if_neg ha]) j0
theorem specAll_ev {a b : Int} {i j : Nat} (h1 : spec_l04Power.f a = some ((i : Int), true)) (h2 : spec_l04Power.f b = some ((j : Int), true)) (hi : i ≤ 3) (hj : j ≤ 3) : Ev (fun k => spec_l04All.f k a b) (schL (i + j) i j (⟨#[]⟩ : ByteArray)) := by
  unfold spec_l04All.f
  rw [h1, h2]
  exact Ev.bind (Ev.now _) (Ev.bind (Ev.now _) (Ev.bind (schemes_ev (i + j) (by omega) i j (⟨#[]⟩ : ByteArray) rfl (by show 0 + (i + j) ≤ 100; omega)) (Ev.now _)))
theorem implSchemes_ev (a b : Int) : ∃ r : List ByteArray × Int, Ev (fun k => impl_SchemesOf.f k a b) r ∧ r.1.length ≤ 4096 ∧ ((∃ i j : Nat, i ≤ 3 ∧ j ≤ 3 ∧ a = ((2 ^ i : Nat) : Int) ∧ b = ((2 ^ j : Nat) : Int) ∧ spec_l04Sheet.f a b = some true ∧ Ev (fun k => spec_l04All.f k a b) r.1 ∧ r = (schL (i + j) i j (⟨#[]⟩ : ByteArray), 0)) ∨ (spec_l04Sheet.f a b = some false ∧ r = ([], 1))) := by
  unfold impl_SchemesOf.f
  rcases sheet_cases a b with ⟨i, j, i1, j1, a1, b1, i3, j3, s1, s2, i5, j5⟩ | ⟨s1, s2⟩
  · have hl := schL_len6 (n := i + j) (by omega) i j (⟨#[]⟩ : ByteArray)
    refine ⟨(schL (i + j) i j (⟨#[]⟩ : ByteArray), 0), ?_, hl, .inl ⟨i, j, i1, j1, a1, b1, s1, specAll_ev i3 j3 i1 j1, rfl⟩⟩
    rw [s2]
    refine Ev.bind (Ev.now _) (Ev_ite_t rfl (Ev.bind i5 (Ev.bind j5 (Ev_ite_t ?_ (Ev.now _)))))
    rw [Int.toNat_natCast, Int.toNat_natCast]
    exact ⟨by omega, by omega, by omega, by omega, by omega⟩
  · refine ⟨([], 1), ?_, by simp, .inr ⟨s1, rfl⟩⟩
    rw [s2]
    exact Ev.bind (Ev.now _) (Ev_ite_f (by simp) (Ev.now _))
theorem eqStringS_ev (l : List ByteArray) (hl : l.length ≤ 35184372088832) : Ev (fun k => laws_eqStringS.f k l l) true := by
  have loop : ∀ (d i : Nat), i + d = l.length → Ev (fun k => laws_eqStringS.l0 k l l (i : Int)) true := by
    intro d
    induction d with
    | zero =>
      intro i hi
      refine Ev.step (f := fun _ => some true) (fun k => by rw [laws_eqStringS.l0, if_neg (by omega)]) (Ev.now _)
    | succ d ih =>
      intro i hi
      refine Ev.step (f := fun k => laws_eqStringS.l0 k l l ((i + 1 : Nat) : Int)) (fun k => by rw [laws_eqStringS.l0, if_pos (by omega), if_pos (by omega), if_pos (by omega), if_pos rfl, w64n i (by omega)]) ?_
      exact ih (i + 1) (by omega)
  refine Ev.congr (f := fun k => laws_eqStringS.l0 k l l ((0 : Nat) : Int)) (fun k => ?_) (loop l.length 0 (by omega))
  simp only [laws_eqStringS.f, if_true]
  rfl
theorem strOf_one (d : Int) : (strOfNums [d]).size = 1 := rfl
theorem markText_loop : ∀ (n : Nat) (m : Int) (x : ByteArray), m.toNat ≤ n → x.size + n ≤ 10000000 → 0 ≤ m → ∃ t, Ev (fun k => laws_markText.l0 k m x) t := by
  intro n
  induction n with
  | zero =>
    intro m x hm hx h0
    exact ⟨_, Ev.step (f := fun _ => some ((⟨#[109]⟩ : ByteArray) ++ x)) (fun k => by rw [laws_markText.l0, if_neg (by omega), if_pos (by omega)]) (Ev.now _)⟩
  | succ n ih =>
    intro m x hm hx h0
    by_cases hp : m > 0
    · have hd : Int.tdiv m 10 = m / 10 := Int.tdiv_eq_ediv_of_nonneg h0
      obtain ⟨t, ht⟩ := ih (Int.tdiv m 10) (strOfNums [(wrap64 (48 + (Int.tmod m 10))) % 256] ++ x) (by rw [hd]; omega) (by rw [ByteArray.size_append, strOf_one]; omega) (by rw [hd]; omega)
      refine ⟨t, Ev.step (fun k => ?_) ht⟩
      rw [laws_markText.l0, if_pos hp]
      simp only [Option.bind_some]
      rw [if_pos (by rw [strOf_one]; omega), w64 (x := Int.tdiv m 10) (by rw [hd]; omega) (by rw [hd]; omega)]
    · exact ⟨_, Ev.step (f := fun _ => some ((⟨#[109]⟩ : ByteArray) ++ x)) (fun k => by rw [laws_markText.l0, if_neg hp, if_pos (by omega)]) (Ev.now _)⟩
theorem markText_ex (m : Int) (h0 : 1 ≤ m) (h1 : m ≤ 2000000) : ∃ t, Ev (fun k => laws_markText.f k m) t := by
  obtain ⟨t, ht⟩ := markText_loop m.toNat m (⟨#[]⟩ : ByteArray) (Nat.le_refl _) (by show 0 + m.toNat ≤ _; omega) (by omega)
  exact ⟨t, Ev.congr (fun k => by unfold laws_markText.f; rw [if_neg (by omega)]) ht⟩
open Classical in
noncomputable def mkT (m : Int) : ByteArray := if h : ∃ t, Ev (fun k => laws_markText.f k m) t then Classical.choose h else ByteArray.empty
open Classical in
theorem mkT_ev (m : Int) (h0 : 1 ≤ m) (h1 : m ≤ 2000000) : Ev (fun k => laws_markText.f k m) (mkT m) := by
  have h := markText_ex m h0 h1
  unfold mkT
  rw [dif_pos h]
  exact Classical.choose_spec h
theorem rdS_set {xs : List ByteArray} {i j : Nat} {v : ByteArray} (hi : i < xs.length) : rdOf ByteArray.empty (xs.set i v) (j : Int) = if i = j then v else rdOf ByteArray.empty xs (j : Int) := by
  unfold rdOf
  rw [Int.toNat_natCast, List.getD_eq_getElem?_getD, List.getD_eq_getElem?_getD, List.getElem?_set]
  by_cases e : i = j
  · subst e; simp [hi]
  · simp [e]
theorem markStringS_ev (l : List ByteArray) (hl : l.length ≤ 1000000) :
    ∃ x : List ByteArray, x.length = l.length ∧ (∀ j : Nat, j < l.length → rdOf ByteArray.empty x (j : Int) = mkT (1 + j)) ∧ Ev (fun k => laws_markStringS.f k l 1) (1 + l.length, x) := by
  have loop : ∀ (d i : Nat), i + d = l.length → ∀ x : List ByteArray, x.length = l.length → (∀ j : Nat, j < i → rdOf ByteArray.empty x (j : Int) = mkT (1 + j)) →
      ∃ y : List ByteArray, y.length = l.length ∧ (∀ j : Nat, j < l.length → rdOf ByteArray.empty y (j : Int) = mkT (1 + j)) ∧ Ev (fun k => laws_markStringS.l0 k x (1 + i) (i : Int)) (1 + l.length, y) := by
    intro d
    induction d with
    | zero =>
      intro i hi x hx h
      obtain rfl : i = l.length := by omega
      exact ⟨x, hx, h, Ev.step (f := fun _ => some (1 + (l.length : Int), x)) (fun k => by rw [laws_markStringS.l0, if_neg (by omega)]) (Ev.now _)⟩
    | succ d ih =>
      intro i hi x hx h
      obtain ⟨y, h1, h2, h3⟩ := ih (i + 1) (by omega) (x.set i (mkT (1 + i))) (by rw [List.length_set]; exact hx) (fun j hj => by
        rw [rdS_set (by omega)]
        by_cases e : i = j
        · rw [if_pos e, e]
        · rw [if_neg e]; exact h j (by omega))
      refine ⟨y, h1, h2, Ev.step (f := fun k => (laws_markText.f k (1 + i)).bind fun t => (if 0 ≤ (i : Int) then (laws_markStringS.l0 k (x.set (i : Int).toNat t) (wrap64 (1 + (i : Int) + 1)) (wrap64 ((i : Int) + 1))) else none)) (fun k => ?_) (Ev.bind (mkT_ev _ (by omega) (by omega)) (Ev_ite_t (by omega) ?_))⟩
      · rw [laws_markStringS.l0, if_pos (by omega)]
      · rw [toNat_cast, w64n i (by omega), w64 (x := 1 + (i : Int) + 1) (by omega) (by omega), show 1 + (i : Int) + 1 = 1 + ((i + 1 : Nat) : Int) by omega]
        exact h3
  obtain ⟨y, h1, h2, h3⟩ := loop l.length 0 (by omega) l rfl (fun j hj => by omega)
  exact ⟨y, h1, h2, Ev.congr (fun k => rfl) h3⟩
theorem heldStringS_ev (x : List ByteArray) (n : Nat) (hx : x.length = n) (h : ∀ j : Nat, j < n → rdOf ByteArray.empty x (j : Int) = mkT (1 + j)) (hl : n ≤ 1000000) :
    Ev (fun k => laws_heldStringS.f k x 1) (1 + n) := by
  have loop : ∀ (d i : Nat), i + d = n → Ev (fun k => laws_heldStringS.l0 k x (1 + i) (i : Int)) (1 + n) := by
    intro d
    induction d with
    | zero =>
      intro i hi
      obtain rfl : i = n := by omega
      exact Ev.step (f := fun _ => some (1 + (i : Int))) (fun k => by rw [laws_heldStringS.l0, if_neg (by omega)]) (Ev.now _)
    | succ d ih =>
      intro i hi
      refine Ev.step (f := fun k => (laws_markText.f k (1 + i)).bind fun t => (if (rdOf ByteArray.empty x (i : Int)).toList = t.toList then (laws_heldStringS.l0 k x (wrap64 (1 + (i : Int) + 1)) (wrap64 ((i : Int) + 1))) else (some (-1)))) (fun k => ?_) (Ev.bind (mkT_ev _ (by omega) (by omega)) (Ev_ite_t (by rw [h i (by omega)]) ?_))
      · rw [laws_heldStringS.l0, if_pos (by omega), if_pos (by omega)]
      · rw [w64n i (by omega), w64 (x := 1 + (i : Int) + 1) (by omega) (by omega), show 1 + (i : Int) + 1 = 1 + ((i + 1 : Nat) : Int) by omega]
        exact ih (i + 1) (by omega)
  exact Ev.congr (fun k => rfl) (loop n 0 (by omega))
theorem FnExactSchemesOf : laws_FnExactSchemesOf.Pure := by
  intro a b ha hb
  apply Ev.rounds
  unfold laws_FnExactSchemesOf.f
  obtain ⟨r, h1, h2, h3⟩ := implSchemes_ev a b
  have hs : Ev (fun k => spec_SchemesOf.f k a b) r := by
    unfold spec_SchemesOf.f
    rcases h3 with ⟨i, j, _, _, _, _, s1, s2, rfl⟩ | ⟨s1, rfl⟩
    · rw [s1]; exact Ev.bind (Ev.now _) (Ev_ite_t rfl (Ev.bind s2 (Ev.now _)))
    · rw [s1]; exact Ev.bind (Ev.now _) (Ev_ite_f (by simp) (Ev.now _))
  obtain ⟨x, x1, x2, x3⟩ := markStringS_ev r.1 (by omega)
  have hh := heldStringS_ev x r.1.length x1 x2 (by omega)
  have he := eqStringS_ev r.1 (by omega)
  have hpos : ¬ (1 + (r.1.length : Int) < 0) := by omega
  refine Ev.bind hs ?_
  refine Ev.bind h1 ?_
  refine Ev.bind he ?_
  refine Ev_ite_t rfl ?_
  refine Ev.step (fun k => by rw [laws_FnExactSchemesOf.j0, if_neg (by simp)]) ?_
  refine Ev.bind x3 ?_
  refine Ev.bind hh ?_
  refine Ev_ite_f hpos ?_
  refine Ev_ite_t rfl ?_
  refine Ev.bind h1 ?_
  refine Ev.bind he ?_
  refine Ev_ite_t rfl ?_
  refine Ev.step (fun k => by rw [laws_FnExactSchemesOf.j1, if_neg (by simp)]) ?_
  refine Ev.bind hh ?_
  refine Ev_ite_f hpos ?_
  refine Ev_ite_t rfl ?_
  exact Ev.now _

end Go.Proofs.Ytijbccmcfagnfaa.Pure
