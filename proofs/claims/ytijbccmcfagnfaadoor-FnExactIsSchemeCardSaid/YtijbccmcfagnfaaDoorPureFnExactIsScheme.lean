/- The pure statement of FnExactIsScheme: for every input that the row lets in, the law's Lean function answers true; no further condition. -/
import Derived.Test.YtijbccmcfagnfaaDoorQFnExactIsSchemex1
set_option linter.unusedVariables false
set_option linter.unusedSimpArgs false
namespace Go.Proofs.YtijbccmcfagnfaaDoor.Pure
open Go.RowKit Go.Proofs.YtijbccmcfagnfaaDoor.QFnExactIsScheme Go.Proofs.YtijbccmcfagnfaaDoorW.PrintWords Go.Proofs.YtijbccmcfagnfaaDoorW.PrintLast

theorem w64 {x : Int} (h0 : -9223372036854775808 ≤ x) (h1 : x ≤ 9223372036854775807) : wrap64 x = x := by unfold wrap64; omega
theorem wz : wrap64 0 = 0 := w64 (by omega) (by omega)
theorem w64_range (x : Int) : -9223372036854775808 ≤ wrap64 x ∧ wrap64 x ≤ 9223372036854775807 := by unfold wrap64; omega
theorem wf64 {x : Int} (h : (Lit.int .i64 x).wf = true) : -9223372036854775808 ≤ x ∧ x ≤ 9223372036854775807 := by
  have h' : (decide (IntKind.i64.min ≤ x) && decide (x ≤ IntKind.i64.max)) = true := h
  simp only [Bool.and_eq_true, decide_eq_true_eq] at h'
  exact h'
theorem wf8 {x : Int} (h : (Lit.int .u8 x).wf = true) : 0 ≤ x ∧ x ≤ 255 := by
  have h' : (decide (IntKind.u8.min ≤ x) && decide (x ≤ IntKind.u8.max)) = true := h
  simp only [Bool.and_eq_true, decide_eq_true_eq] at h'
  exact h'
theorem rd_get {xs : List Int} {i : Nat} (h : i < xs.length) : rd xs (i : Int) = xs[i] := by
  simp [rd, List.getD_eq_getElem?_getD, h]
theorem rd_nat (xs : List Int) (i : Nat) : rd xs (i : Int) = xs.getD i 0 := by simp [rd]
theorem rd_mem {xs : List Int} {i : Nat} (h : i < xs.length) : rd xs (i : Int) ∈ xs := by rw [rd_get h]; exact List.getElem_mem h
theorem rd_ext {xs ys : List Int} (hl : xs.length = ys.length) (h : ∀ i : Nat, i < xs.length → rd xs (i : Int) = rd ys (i : Int)) : xs = ys := by
  apply List.ext_getElem hl
  intro i h1 h2
  have := h i h1
  rwa [rd_get h1, rd_get h2] at this
theorem rd_set {xs : List Int} {i j : Nat} {v : Int} (hi : i < xs.length) : rd (xs.set i v) (j : Int) = if i = j then v else rd xs (j : Int) := by
  simp only [rd_nat, List.getD_eq_getElem?_getD, List.getElem?_set]
  by_cases h : i = j
  · subst h; simp [hi]
  · simp [h]
theorem rd_append_left {xs ys : List Int} {j : Nat} (h : j < xs.length) : rd (xs ++ ys) (j : Int) = rd xs (j : Int) := by
  simp only [rd_nat, List.getD_eq_getElem?_getD, List.getElem?_append_left h]
theorem rd_append_at {xs : List Int} {v : Int} : rd (xs ++ [v]) (xs.length : Int) = v := by
  simp [rd_nat, List.getD_eq_getElem?_getD]
theorem rd_take {xs : List Int} {i j : Nat} (h : j < i) : rd (xs.take i) (j : Int) = rd xs (j : Int) := by
  simp [rd_nat, List.getD_eq_getElem?_getD, List.getElem?_take, h]
theorem rd_drop {xs : List Int} {i j : Nat} : rd (xs.drop i) (j : Int) = rd xs ((i + j : Nat) : Int) := by
  simp only [rd_nat, List.getD_eq_getElem?_getD, List.getElem?_drop]
theorem toNat_cast (i : Nat) : ((i : Nat) : Int).toNat = i := Int.toNat_natCast i
theorem drop_cons {xs : List Int} {i : Nat} (h : i < xs.length) : xs.drop i = rd xs (i : Int) :: xs.drop (i + 1) := by
  rw [rd_get h]; exact List.drop_eq_getElem_cons h
theorem Ev_ite_t {α : Type} {c : Prop} [Decidable c] {f g : Nat → Option α} {r : α} (h : c) (k : Ev f r) : Ev (fun n => if c then f n else g n) r :=
  Ev.congr (fun _ => if_pos h) k
theorem Ev_ite_f {α : Type} {c : Prop} [Decidable c] {f g : Nat → Option α} {r : α} (h : ¬ c) (k : Ev g r) : Ev (fun n => if c then f n else g n) r :=
  Ev.congr (fun _ => if_neg h) k
theorem w64n (i : Nat) (h : i < 9223372036854775807) : wrap64 ((i : Int) + 1) = ((i + 1 : Nat) : Int) := by
  rw [w64 (by omega) (by omega)]; rfl
theorem wrap_add_wrap (a b : Int) : wrap64 (wrap64 a + b) = wrap64 (a + b) := by unfold wrap64; omega
theorem wrap_add_wrap' (a b : Int) : wrap64 (a + wrap64 b) = wrap64 (a + b) := by unfold wrap64; omega
theorem EvE_bind {α β : Type} {g : Nat → Option α} {f : Nat → α → Option β} {a : α} (h : Ev g a) (k : ∃ r, Ev (fun n => f n a) r) : ∃ r, Ev (fun n => (g n).bind (f n)) r := by
  obtain ⟨r, k⟩ := k
  exact ⟨r, Ev.bind h k⟩
theorem EvE_now {α : Type} (a : α) : ∃ r, Ev (fun _ : Nat => some a) r := ⟨a, Ev.now a⟩
theorem EvE_ite_t {α : Type} {c : Prop} [Decidable c] {f g : Nat → Option α} (h : c) (k : ∃ r, Ev f r) : ∃ r, Ev (fun n => if c then f n else g n) r := by
  obtain ⟨r, k⟩ := k
  exact ⟨r, Ev_ite_t h k⟩
theorem EvE_ite_f {α : Type} {c : Prop} [Decidable c] {f g : Nat → Option α} (h : ¬ c) (k : ∃ r, Ev g r) : ∃ r, Ev (fun n => if c then f n else g n) r := by
  obtain ⟨r, k⟩ := k
  exact ⟨r, Ev_ite_f h k⟩
theorem side_cases (a : Int) : (∃ j : Nat, j ≤ 3 ∧ a = ((2 ^ j : Nat) : Int) ∧ spec_l04Power.f a = some ((j : Int), true) ∧ impl_isSide.f a = some true ∧ Ev (fun k => impl_halvings.f k a) (j : Int)) ∨ (spec_l04Power.f a = some (0, false) ∧ impl_isSide.f a = some false) := by
  by_cases h1 : a = 1
  · subst h1; exact .inl ⟨0, by decide, by decide, by decide +kernel, by decide +kernel, Ev.of (impl_halvings.mono _) (k := 10) (by decide +kernel)⟩
  by_cases h2 : a = 2
  · subst h2; exact .inl ⟨1, by decide, by decide, by decide +kernel, by decide +kernel, Ev.of (impl_halvings.mono _) (k := 10) (by decide +kernel)⟩
  by_cases h4 : a = 4
  · subst h4; exact .inl ⟨2, by decide, by decide, by decide +kernel, by decide +kernel, Ev.of (impl_halvings.mono _) (k := 10) (by decide +kernel)⟩
  by_cases h8 : a = 8
  · subst h8; exact .inl ⟨3, by decide, by decide, by decide +kernel, by decide +kernel, Ev.of (impl_halvings.mono _) (k := 10) (by decide +kernel)⟩
  · refine .inr ⟨?_, ?_⟩
    · unfold spec_l04Power.f
      rw [if_neg h1, if_neg h2, if_neg h4, if_neg h8]
    · unfold impl_isSide.f
      rw [if_neg h1, if_neg h2, if_neg h4, show (a == 8) = false from beq_false_of_ne h8]
theorem trim_nil (cs : List UInt8) : ∀ l : List UInt8, Go.Lib.trimS l cs = [] ↔ ∀ b ∈ l, cs.contains b = true := by
  have dw : ∀ l : List UInt8, l.dropWhile (cs.contains ·) = [] ↔ ∀ b ∈ l, cs.contains b = true := by
    intro l
    induction l with
    | nil => simp
    | cons a t ih =>
      rw [List.dropWhile_cons]
      by_cases h : cs.contains a = true
      · rw [if_pos h, ih]
        exact ⟨fun g b hb => by rcases List.mem_cons.1 hb with rfl | hb; exact h; exact g b hb, fun g b hb => g b (List.mem_cons_of_mem _ hb)⟩
      · rw [if_neg h]
        exact ⟨fun g => (List.cons_ne_nil _ _ g).elim, fun g => absurd (g a List.mem_cons_self) h⟩
  intro l
  unfold Go.Lib.trimS Go.Lib.trimLeftS
  rw [dw]
  unfold Go.Lib.trimRightS
  constructor
  · intro g
    have e : l.reverse.dropWhile (cs.contains ·) = [] := by
      cases hd : l.reverse.dropWhile (cs.contains ·) with
      | nil => rfl
      | cons a t =>
        have h1 := List.head?_dropWhile_not (cs.contains ·) l.reverse
        rw [hd] at h1 g
        have h2 := g a (by simp)
        simp only [List.head?_cons] at h1
        rw [h2] at h1
        cases h1
    intro b hb
    exact (dw l.reverse).1 e b (List.mem_reverse.2 hb)
  · intro g
    have e := (dw l.reverse).2 (fun b hb => g b (List.mem_reverse.1 hb))
    rw [e]
    intro b hb
    simp at hb
def isF (s : ByteArray) : Bool := decide ((∀ i : Nat, i < s.size → bt s (i : Int) = 76 ∨ bt s (i : Int) = 82) ∧ s.size ≤ 6)
theorem bt_list (s : ByteArray) (i : Nat) (h : i < s.size) : bt s (i : Int) = ((s.data.toList[i]'(by simpa using h)).toNat : Int) := by
  unfold bt
  rw [dif_pos (by rw [Int.toNat_natCast]; exact h)]
  simp [ByteArray.getElem_eq_getElem_data]
def sL (one two : Bool) : List UInt8 → Int → Int → Bool
  | [], a, b => if one = true then (if two = true then (if a = 0 then b == 0 else false) else false) else false
  | c :: t, a, b => if c = 76 ∨ c = 82 then sL one two t (a - 1) b else if c = 84 ∨ c = 66 then sL one two t a (b - 1) else false
def lrc (l : List UInt8) : Nat := Go.Lib.countByte l 76 + Go.Lib.countByte l 82
theorem lrc_cons (c : UInt8) (t : List UInt8) : lrc (c :: t) = lrc t + (if c = 76 ∨ c = 82 then 1 else 0) := by
  unfold lrc Go.Lib.countByte
  rw [List.count_cons, List.count_cons]
  by_cases h1 : c = 76
  · subst h1; simp; omega
  · by_cases h2 : c = 82
    · subst h2; simp; omega
    · simp [h1, h2]
theorem lrc_le (l : List UInt8) : lrc l ≤ l.length := by
  induction l with
  | nil => decide
  | cons c t ih => rw [lrc_cons, List.length_cons]; split <;> omega
theorem sL_iff (one two : Bool) : ∀ (l : List UInt8) (a b : Int), sL one two l a b = true ↔ (∀ x ∈ l, ([76, 82, 84, 66] : List UInt8).contains x = true) ∧ one = true ∧ two = true ∧ a = (lrc l : Int) ∧ b = (l.length : Int) - (lrc l : Int)
  | [], a, b => by
    rw [sL, show lrc [] = 0 from rfl]
    cases one <;> cases two <;> simp <;> omega
  | c :: t, a, b => by
    rw [sL, lrc_cons, List.length_cons]
    by_cases h1 : c = 76 ∨ c = 82
    · rw [if_pos h1, if_pos h1, sL_iff one two t]
      have hc : ([76, 82, 84, 66] : List UInt8).contains c = true := by rcases h1 with rfl | rfl <;> decide
      constructor
      · rintro ⟨g1, g2, g3, g4, g5⟩
        exact ⟨fun x hx => by rcases List.mem_cons.1 hx with rfl | hx; exact hc; exact g1 x hx, g2, g3, by omega, by omega⟩
      · rintro ⟨g1, g2, g3, g4, g5⟩
        exact ⟨fun x hx => g1 x (List.mem_cons_of_mem _ hx), g2, g3, by omega, by omega⟩
    · rw [if_neg h1, if_neg h1]
      by_cases h2 : c = 84 ∨ c = 66
      · rw [if_pos h2, sL_iff one two t]
        have hc : ([76, 82, 84, 66] : List UInt8).contains c = true := by rcases h2 with rfl | rfl <;> decide
        constructor
        · rintro ⟨g1, g2, g3, g4, g5⟩
          exact ⟨fun x hx => by rcases List.mem_cons.1 hx with rfl | hx; exact hc; exact g1 x hx, g2, g3, by omega, by omega⟩
        · rintro ⟨g1, g2, g3, g4, g5⟩
          exact ⟨fun x hx => g1 x (List.mem_cons_of_mem _ hx), g2, g3, by omega, by omega⟩
      · rw [if_neg h2]
        constructor
        · intro z; cases z
        · rintro ⟨g1, _⟩
          have := g1 c List.mem_cons_self
          simp only [List.contains_cons, List.contains_nil, Bool.or_false, Bool.or_eq_true, beq_iff_eq] at this
          rcases this with e | e | e | e
          · exact (h1 (.inl e)).elim
          · exact (h1 (.inr e)).elim
          · exact (h2 (.inl e)).elim
          · exact (h2 (.inr e)).elim
theorem byte_eq (c : UInt8) (n : Nat) (hn : n < 256) : ((c.toNat : Int) = (n : Int)) ↔ c = UInt8.ofNat n := by
  have e : (UInt8.ofNat n).toNat = n := (show (UInt8.ofNat n).toNat = n % 256 from rfl).trans (Nat.mod_eq_of_lt hn)
  constructor
  · intro h
    apply UInt8.toNat_inj.1
    rw [e]
    omega
  · rintro rfl
    rw [e]
theorem specIsScheme_loop (s : ByteArray) (one two : Bool) (hs : s.size ≤ 1048576) : ∀ (d i : Nat), i + d = s.size → ∀ a b : Int, -4000000 ≤ a - (d : Int) → a ≤ 4000000 → -4000000 ≤ b - (d : Int) → b ≤ 4000000 → Ev (fun k => spec_IsScheme.l0 k s a one b two (i : Int)) (sL one two (s.data.toList.drop i) a b) := by
  have hz : s.size = s.data.toList.length := by simp
  intro d
  induction d with
  | zero =>
    intro i hi a b _ _ _ _
    rw [List.drop_of_length_le (by omega), sL]
    refine Ev.step (f := fun _ => some (if one = true then (if two = true then (if a = 0 then b == 0 else false) else false) else false)) (fun k => ?_) (Ev.now _)
    rw [spec_IsScheme.l0, if_neg (by omega)]
    cases one <;> cases two <;> by_cases h : a = 0 <;> simp [h]
  | succ d ih =>
    intro i hi a b h1 h2 h3 h4
    have hil : i < s.data.toList.length := by omega
    rw [List.drop_eq_getElem_cons hil, sL]
    have hb := bt_list s i (by omega)
    generalize s.data.toList[i] = c at hb
    have b76 := byte_eq c 76 (by omega)
    have b82 := byte_eq c 82 (by omega)
    have b84 := byte_eq c 84 (by omega)
    have b66 := byte_eq c 66 (by omega)
    have e76 : bt s (i : Int) = 76 ↔ c = 76 := by rw [hb]; exact b76
    have e82 : bt s (i : Int) = 82 ↔ c = 82 := by rw [hb]; exact b82
    have e84 : bt s (i : Int) = 84 ↔ c = 84 := by rw [hb]; exact b84
    have e66 : bt s (i : Int) = 66 ↔ c = 66 := by rw [hb]; exact b66
    have step : ∀ r, Ev (fun k => spec_IsScheme.j1 k s a one b two (i : Int) (bt s (i : Int)) (decide (c = 76 ∨ c = 82))) r → Ev (fun k => spec_IsScheme.l0 k s a one b two (i : Int)) r := by
      intro r hr
      refine Ev.step (fun k => ?_) hr
      rw [spec_IsScheme.l0, if_pos (by omega), if_pos (by omega)]
      by_cases c1 : bt s (i : Int) = 76
      · rw [if_pos c1, show ((bt s (i : Int)) == 76) = true from by rw [c1]; rfl, decide_eq_true (.inl (e76.1 c1))]
      · rw [if_neg c1]
        by_cases c2 : bt s (i : Int) = 82
        · rw [show ((bt s (i : Int)) == 82) = true from by rw [c2]; rfl, decide_eq_true (.inr (e82.1 c2))]
        · rw [show ((bt s (i : Int)) == 82) = false from beq_false_of_ne c2, decide_eq_false (fun z => by rcases z with z | z; exact c1 (e76.2 z); exact c2 (e82.2 z))]
    apply step
    by_cases g1 : c = 76 ∨ c = 82
    · rw [if_pos g1, decide_eq_true g1]
      refine Ev.step (fun k => by rw [spec_IsScheme.j1, if_pos rfl, w64n i (by omega), w64 (x := a - 1) (by omega) (by omega)]) ?_
      exact ih (i + 1) (by omega) _ _ (by omega) (by omega) (by omega) (by omega)
    · rw [if_neg g1, decide_eq_false g1]
      by_cases g2 : c = 84 ∨ c = 66
      · rw [if_pos g2]
        refine Ev.step (f := fun k => spec_IsScheme.l0 k s a one (b - 1) two ((i + 1 : Nat) : Int)) (fun k => ?_) (ih (i + 1) (by omega) _ _ (by omega) (by omega) (by omega) (by omega))
        rw [spec_IsScheme.j1, if_neg (by simp), w64n i (by omega), w64 (x := b - 1) (by omega) (by omega)]
        by_cases c3 : bt s (i : Int) = 84
        · rw [if_pos c3]
        · rw [if_neg c3, if_pos (e66.2 (by rcases g2 with z | z; exact (c3 (e84.2 z)).elim; exact z))]
      · rw [if_neg g2]
        refine Ev.step (f := fun _ => some false) (fun k => ?_) (Ev.now _)
        rw [spec_IsScheme.j1, if_neg (by simp), if_neg (fun z => g2 (.inl (e84.1 z))), if_neg (fun z => g2 (.inr (e66.1 z)))]
theorem isScheme_two (a b : Int) (s : ByteArray) (hs : s.size ≤ 1048576) : ∃ v : Bool, Ev (fun k => spec_IsScheme.f k a b s) v ∧ Ev (fun k => impl_IsScheme.f k a b s) v ∧ (v = true → ∃ i j : Nat, i ≤ 3 ∧ j ≤ 3 ∧ a = ((2 ^ i : Nat) : Int) ∧ b = ((2 ^ j : Nat) : Int) ∧ (∀ x ∈ s.data.toList, ([76, 82, 84, 66] : List UInt8).contains x = true) ∧ lrc s.data.toList = i ∧ s.data.toList.length = i + j) := by
  have hz : s.size = s.data.toList.length := by simp
  have hle := lrc_le s.data.toList
  have spec : ∀ (i j : Nat) (one two : Bool), i ≤ 3 → j ≤ 3 → spec_l04Power.f a = some ((i : Int), one) → spec_l04Power.f b = some ((j : Int), two) → Ev (fun k => spec_IsScheme.f k a b s) (sL one two s.data.toList (i : Int) (j : Int)) := by
    intro i j one two hi hj p1 p2
    unfold spec_IsScheme.f
    rw [p1, p2]
    refine Ev.bind (Ev.now _) (Ev.bind (Ev.now _) ?_)
    have := specIsScheme_loop s one two hs s.size 0 (by omega) (i : Int) (j : Int) (by omega) (by omega) (by omega) (by omega)
    rw [List.drop_zero] at this
    exact Ev.congr (fun k => rfl) this
  have no : ∀ (i j : Nat) (one two : Bool), (one = false ∨ two = false) → sL one two s.data.toList (i : Int) (j : Int) = false := by
    intro i j one two h
    rw [Bool.eq_false_iff]
    intro z
    obtain ⟨_, z1, z2, _⟩ := (sL_iff _ _ _ _ _).1 z
    rcases h with h | h
    · rw [h] at z1; cases z1
    · rw [h] at z2; cases z2
  have bad : impl_isSheet.f a b = some false → Ev (fun k => impl_IsScheme.f k a b s) false := by
    intro h
    unfold impl_IsScheme.f
    rw [h]
    exact Ev.bind (Ev.now _) (Ev_ite_f (by simp) (Ev.now _))
  rcases side_cases a with ⟨i, i1, i2, i3, i4, i5⟩ | ⟨i3, i4⟩
  · rcases side_cases b with ⟨j, j1, j2, j3, j4, j5⟩ | ⟨j3, j4⟩
    · have hsh : impl_isSheet.f a b = some true := by unfold impl_isSheet.f; rw [i4, j4]; rfl
      refine ⟨_, spec i j true true i1 j1 i3 j3, ?_, ?_⟩
      · unfold impl_IsScheme.f
        rw [hsh]
        refine Ev.bind (Ev.now _) (Ev_ite_t rfl (Ev_ite_t hs ?_))
        have hiff := sL_iff true true s.data.toList (i : Int) (j : Int)
        have hlr : lrcount s = lrc s.data.toList := rfl
        by_cases ht : Go.Lib.trimS s.data.toList [76, 82, 84, 66] = []
        · refine Ev_ite_t ht (Ev.bind i5 ?_)
          have hall := (trim_nil _ _).1 ht
          by_cases hc : (lrcount s : Int) = (i : Int)
          · refine Ev_ite_t hc (Ev.bind j5 ?_)
            have e : sL true true s.data.toList (i : Int) (j : Int) = decide ((s.size : Int) - (lrcount s : Int) = (j : Int)) := by
              rw [Bool.eq_iff_iff, hiff, decide_eq_true_iff]
              constructor
              · rintro ⟨_, _, _, g1, g2⟩
                rw [hz, hlr, g2]
              · intro g
                exact ⟨hall, rfl, rfl, by rw [← hlr, hc], by rw [← hlr, ← hz, g]⟩
            rw [e]
            exact Ev.now _
          · rw [show sL true true s.data.toList (i : Int) (j : Int) = false from by
              rw [Bool.eq_false_iff]; intro z
              obtain ⟨_, _, _, z4, _⟩ := hiff.1 z
              exact hc (by rw [hlr, z4])]
            exact Ev_ite_f hc (Ev.now _)
        · rw [show sL true true s.data.toList (i : Int) (j : Int) = false from by
            rw [Bool.eq_false_iff]; intro z
            exact ht ((trim_nil _ _).2 (hiff.1 z).1)]
          exact Ev_ite_f ht (Ev.now _)
      · intro z
        obtain ⟨z1, _, _, z4, z5⟩ := (sL_iff _ _ _ _ _).1 z
        exact ⟨i, j, i1, j1, i2, j2, z1, by omega, by omega⟩
    · have hsh : impl_isSheet.f a b = some false := by unfold impl_isSheet.f; rw [i4, j4]; rfl
      have e := spec i 0 true false i1 (by omega) i3 j3
      rw [no i 0 true false (.inr rfl)] at e
      exact ⟨false, e, bad hsh, fun z => by cases z⟩
  · have hsh : impl_isSheet.f a b = some false := by unfold impl_isSheet.f; rw [i4]; rfl
    rcases side_cases b with ⟨j, j1, j2, j3, j4, j5⟩ | ⟨j3, j4⟩
    · have e := spec 0 j false true (by omega) j1 i3 j3
      rw [no 0 j false true (.inl rfl)] at e
      exact ⟨false, e, bad hsh, fun z => by cases z⟩
    · have e := spec 0 0 false false (by omega) (by omega) i3 j3
      rw [no 0 0 false false (.inl rfl)] at e
      exact ⟨false, e, bad hsh, fun z => by cases z⟩
theorem FnExactIsScheme : laws_FnExactIsScheme.Pure := by
  intro a b s ha hb hs
  apply Ev.rounds
  unfold laws_FnExactIsScheme.f
  by_cases hl : (s.size : Int) > 1048576
  · exact Ev_ite_t hl (Ev.now _)
  · obtain ⟨v, h1, h2, _⟩ := isScheme_two a b s (by omega)
    refine Ev_ite_f hl ?_
    refine Ev.bind h1 ?_
    refine Ev.bind h2 ?_
    exact Ev_ite_f (by simp) (Ev.now _)

end Go.Proofs.YtijbccmcfagnfaaDoor.Pure
