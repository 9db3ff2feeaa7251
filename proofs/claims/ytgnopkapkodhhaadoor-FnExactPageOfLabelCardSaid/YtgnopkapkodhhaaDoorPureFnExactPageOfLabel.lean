/- The pure statement of FnExactPageOfLabel: for every input that the row lets in, the law's Lean function answers true; no further condition. -/
import Derived.Test.YtgnopkapkodhhaaDoorQFnExactPageOfLabelx4
set_option linter.unusedVariables false
set_option linter.unusedSimpArgs false
namespace Go.Proofs.YtgnopkapkodhhaaDoor.Pure
open Go.RowKit Go.Proofs.YtgnopkapkodhhaaDoor.QFnExactPageOfLabel Go.Proofs.YtgnopkapkodhhaaDoorW.PrintWords Go.Proofs.YtgnopkapkodhhaaDoorW.PrintLast

theorem w64 {x : Int} (h0 : -9223372036854775808 ≤ x) (h1 : x ≤ 9223372036854775807) : wrap64 x = x := by unfold wrap64; omega
theorem wz : wrap64 0 = 0 := w64 (by omega) (by omega)
theorem w64_range (x : Int) : -9223372036854775808 ≤ wrap64 x ∧ wrap64 x ≤ 9223372036854775807 := by unfold wrap64; omega
theorem wf64 {x : Int} (h : (Lit.int .i64 x).wf = true) : -9223372036854775808 ≤ x ∧ x ≤ 9223372036854775807 := by
  have h' : (decide (IntKind.i64.min ≤ x) && decide (x ≤ IntKind.i64.max)) = true := h
  simp only [Bool.and_eq_true, decide_eq_true_eq] at h'
  exact h'
theorem wf8 {x : Int} (h : (Lit.int .u8 x).wf = true) : 0 ≤ x ∧ x ≤ 255 := by
  have h' : (decide (IntKind.u8.min ≤ x) && decide (x ≤ IntKind.u8.max)) = true := h
  simp only [Bool.and_eq_true, decide_eq_true_eq] at h'
  exact h'
theorem rd_get {xs : List Int} {i : Nat} (h : i < xs.length) : rd xs (i : Int) = xs[i] := by
  simp [rd, List.getD_eq_getElem?_getD, h]
theorem rd_nat (xs : List Int) (i : Nat) : rd xs (i : Int) = xs.getD i 0 := by simp [rd]
theorem rd_mem {xs : List Int} {i : Nat} (h : i < xs.length) : rd xs (i : Int) ∈ xs := by rw [rd_get h]; exact List.getElem_mem h
theorem rd_ext {xs ys : List Int} (hl : xs.length = ys.length) (h : ∀ i : Nat, i < xs.length → rd xs (i : Int) = rd ys (i : Int)) : xs = ys := by
  apply List.ext_getElem hl
  intro i h1 h2
  have := h i h1
  rwa [rd_get h1, rd_get h2] at this
theorem rd_set {xs : List Int} {i j : Nat} {v : Int} (hi : i < xs.length) : rd (xs.set i v) (j : Int) = if i = j then v else rd xs (j : Int) := by
  simp only [rd_nat, List.getD_eq_getElem?_getD, List.getElem?_set]
  by_cases h : i = j
  · subst h; simp [hi]
  · simp [h]
theorem rd_append_left {xs ys : List Int} {j : Nat} (h : j < xs.length) : rd (xs ++ ys) (j : Int) = rd xs (j : Int) := by
  simp only [rd_nat, List.getD_eq_getElem?_getD, List.getElem?_append_left h]
theorem rd_append_at {xs : List Int} {v : Int} : rd (xs ++ [v]) (xs.length : Int) = v := by
  simp [rd_nat, List.getD_eq_getElem?_getD]
theorem rd_take {xs : List Int} {i j : Nat} (h : j < i) : rd (xs.take i) (j : Int) = rd xs (j : Int) := by
  simp [rd_nat, List.getD_eq_getElem?_getD, List.getElem?_take, h]
theorem rd_drop {xs : List Int} {i j : Nat} : rd (xs.drop i) (j : Int) = rd xs ((i + j : Nat) : Int) := by
  simp only [rd_nat, List.getD_eq_getElem?_getD, List.getElem?_drop]
theorem toNat_cast (i : Nat) : ((i : Nat) : Int).toNat = i := Int.toNat_natCast i
theorem drop_cons {xs : List Int} {i : Nat} (h : i < xs.length) : xs.drop i = rd xs (i : Int) :: xs.drop (i + 1) := by
  rw [rd_get h]; exact List.drop_eq_getElem_cons h
theorem Ev_ite_t {α : Type} {c : Prop} [Decidable c] {f g : Nat → Option α} {r : α} (h : c) (k : Ev f r) : Ev (fun n => if c then f n else g n) r :=
  Ev.congr (fun _ => if_pos h) k
theorem Ev_ite_f {α : Type} {c : Prop} [Decidable c] {f g : Nat → Option α} {r : α} (h : ¬ c) (k : Ev g r) : Ev (fun n => if c then f n else g n) r :=
  Ev.congr (fun _ => if_neg h) k
theorem w64n (i : Nat) (h : i < 9223372036854775807) : wrap64 ((i : Int) + 1) = ((i + 1 : Nat) : Int) := by
  rw [w64 (by omega) (by omega)]; rfl
theorem wrap_add_wrap (a b : Int) : wrap64 (wrap64 a + b) = wrap64 (a + b) := by unfold wrap64; omega
theorem wrap_add_wrap' (a b : Int) : wrap64 (a + wrap64 b) = wrap64 (a + b) := by unfold wrap64; omega
theorem EvE_bind {α β : Type} {g : Nat → Option α} {f : Nat → α → Option β} {a : α} (h : Ev g a) (k : ∃ r, Ev (fun n => f n a) r) : ∃ r, Ev (fun n => (g n).bind (f n)) r := by
  obtain ⟨r, k⟩ := k
  exact ⟨r, Ev.bind h k⟩
theorem EvE_now {α : Type} (a : α) : ∃ r, Ev (fun _ : Nat => some a) r := ⟨a, Ev.now a⟩
theorem EvE_ite_t {α : Type} {c : Prop} [Decidable c] {f g : Nat → Option α} (h : c) (k : ∃ r, Ev f r) : ∃ r, Ev (fun n => if c then f n else g n) r := by
  obtain ⟨r, k⟩ := k
  exact ⟨r, Ev_ite_t h k⟩
theorem EvE_ite_f {α : Type} {c : Prop} [Decidable c] {f g : Nat → Option α} (h : ¬ c) (k : ∃ r, Ev g r) : ∃ r, Ev (fun n => if c then f n else g n) r := by
  obtain ⟨r, k⟩ := k
  exact ⟨r, Ev_ite_f h k⟩
theorem l01In_eq (n a b : Int) : spec_l01In.f n a b = some (decide (a ≤ n ∧ n ≤ b)) := by
  unfold spec_l01In.f
  by_cases h : n ≥ a
  · rw [if_pos h]; simp [show a ≤ n from h]
  · rw [if_neg h]; simp [show ¬ a ≤ n from h]
theorem inRange_eq (n a b : Int) : impl_inRange.f n a b = some (decide (a ≤ n ∧ n ≤ b)) := by
  unfold impl_inRange.f
  by_cases h : a ≤ n
  · rw [if_pos h]; simp [h]
  · rw [if_neg h]; simp [h]
theorem maxLen_eq : maxLen = 9223372036854775807 := by decide
def isBk (f : Int) (l : List Int) : Bool := decide (0 ≤ f ∧ f ≤ 40 ∧ 1 ≤ l.length ∧ l.length ≤ 20 ∧ ∀ x ∈ l, 1 ≤ x ∧ x ≤ 200)
theorem isBk_iff {f : Int} {l : List Int} : isBk f l = true ↔ 0 ≤ f ∧ f ≤ 40 ∧ 1 ≤ l.length ∧ l.length ≤ 20 ∧ ∀ x ∈ l, 1 ≤ x ∧ x ≤ 200 := by unfold isBk; exact decide_eq_true_iff
theorem within_ev (l : List Int) (m lo hi : Int) (hl : l.length ≤ 35184372088832) (b : Bool) (hb : b = true ↔ (l.length : Int) ≤ m ∧ ∀ x ∈ l, lo ≤ x ∧ x ≤ hi) : Ev (fun k => spec_l01Within.f k l m lo hi) b := by
  have loop : ∀ (d i : Nat), i + d = l.length → ∀ b : Bool, (b = true ↔ (l.length : Int) ≤ m ∧ ∀ x ∈ l.drop i, lo ≤ x ∧ x ≤ hi) → Ev (fun k => spec_l01Within.l0 k l m lo hi (i : Int)) b := by
    intro d
    induction d with
    | zero =>
      intro i hi' b hb
      have e : b = decide ((l.length : Int) ≤ m) := by
        rw [Bool.eq_iff_iff, hb, decide_eq_true_iff, show l.drop i = [] from List.drop_of_length_le (by omega)]
        exact ⟨fun h => h.1, fun h => ⟨h, fun x hx => by simp at hx⟩⟩
      rw [e]
      exact Ev.step (f := fun _ => some (decide ((l.length : Int) ≤ m))) (fun k => by rw [spec_l01Within.l0, if_neg (by omega)]) (Ev.now _)
    | succ d ih =>
      intro i hi' b hb
      refine Ev.step (f := fun k => if decide (lo ≤ rd l (i : Int) ∧ rd l (i : Int) ≤ hi) = true then spec_l01Within.l0 k l m lo hi ((i + 1 : Nat) : Int) else some false) (fun k => by rw [spec_l01Within.l0, if_pos (by omega), if_pos (by omega), l01In_eq, w64n i (by omega)]; rfl) ?_
      rw [drop_cons (xs := l) (i := i) (by omega)] at hb
      simp only [List.mem_cons, forall_eq_or_imp] at hb
      by_cases h : lo ≤ rd l (i : Int) ∧ rd l (i : Int) ≤ hi
      · refine Ev_ite_t (decide_eq_true h) (ih (i + 1) (by omega) b ?_)
        rw [hb]
        exact ⟨fun x => ⟨x.1, x.2.2⟩, fun x => ⟨x.1, h, x.2⟩⟩
      · have e : b = false := by
          rw [Bool.eq_false_iff]; intro hbt
          exact h (hb.1 hbt).2.1
        rw [e]
        exact Ev_ite_f (by rw [decide_eq_true_iff]; exact h) (Ev.now _)
  have := loop l.length 0 (by omega) b (by rw [List.drop_zero]; exact hb)
  exact Ev.congr (fun k => rfl) this
theorem specIsBook_ev (f : Int) (l : List Int) (r : Bool) (hl : l.length ≤ 35184372088832) : Ev (fun k => spec_IsBook.f k f l r) (isBk f l) := by
  unfold spec_IsBook.f
  simp only [l01In_eq, Option.bind_some, decide_eq_true_eq]
  by_cases h1 : 0 ≤ f ∧ f ≤ 40
  · refine Ev_ite_t h1 ?_
    by_cases h2 : (l.length : Int) > 0
    · refine Ev_ite_t h2 (Ev.bind (within_ev l 20 1 200 hl (isBk f l) ?_) (Ev.now _))
      rw [isBk_iff]
      constructor
      · rintro ⟨_, _, _, a, b⟩; exact ⟨by omega, b⟩
      · rintro ⟨a, b⟩; exact ⟨h1.1, h1.2, by omega, by omega, b⟩
    · have e : isBk f l = false := by rw [Bool.eq_false_iff]; intro h; have := isBk_iff.1 h; omega
      rw [e]
      exact Ev_ite_f h2 (Ev.now _)
  · have e : isBk f l = false := by rw [Bool.eq_false_iff]; intro h; have := isBk_iff.1 h; omega
    rw [e]
    exact Ev_ite_f h1 (Ev.now _)
theorem allIn_eq (l : List Int) (lo hi : Int) : impl_allIn.f l lo hi = some (decide (∀ x ∈ l, lo ≤ x ∧ x ≤ hi)) := by
  unfold impl_allIn.f
  congr 1
  rw [Bool.eq_iff_iff, decide_eq_true_iff, Bool.not_eq_true', List.any_eq_false]
  unfold allIn_out
  constructor
  · intro h x hx; simpa using h x hx
  · intro h x hx; simpa using h x hx
theorem implIsBook_eq (f : Int) (l : List Int) (r : Bool) : impl_IsBook.f f l r = some (isBk f l) := by
  unfold impl_IsBook.f impl_length_int64.f
  simp only [inRange_eq, allIn_eq, Option.bind_some, decide_eq_true_eq]
  by_cases h1 : 0 ≤ f ∧ f ≤ 40
  · rw [if_pos h1]
    by_cases h2 : 1 ≤ (l.length : Int) ∧ (l.length : Int) ≤ 20
    · rw [if_pos h2]
      unfold isBk
      congr 1
      rw [decide_eq_decide]
      constructor
      · intro b; exact ⟨h1.1, h1.2, by omega, by omega, b⟩
      · rintro ⟨_, _, _, _, b⟩; exact b
    · rw [if_neg h2]
      congr 1
      symm
      rw [Bool.eq_false_iff]; intro h; have := isBk_iff.1 h; omega
  · rw [if_neg h1]
    congr 1
    symm
    rw [Bool.eq_false_iff]; intro h; have := isBk_iff.1 h; omega
def st (r : Bool) (x : Int) : Int := if r = true ∧ Int.tmod x 2 = 0 then x + 1 else x
def sFirst (r : Bool) : List Int → Int → List Int
  | [], _ => []
  | n :: t, x => st r x :: sFirst r t (st r x + n)
def sBlank (r : Bool) : List Int → Int → List Int
  | [], _ => []
  | n :: t, x => (if r = true ∧ Int.tmod x 2 = 0 then [x] else []) ++ sBlank r t (st r x + n)
def sEnd (r : Bool) : List Int → Int → Int
  | [], x => x
  | n :: t, x => sEnd r t (st r x + n)
theorem st_ge (r : Bool) (x : Int) : x ≤ st r x ∧ st r x ≤ x + 1 := by unfold st; split <;> omega
theorem sFirst_length (r : Bool) : ∀ (l : List Int) (x : Int), (sFirst r l x).length = l.length
  | [], _ => rfl
  | n :: t, x => by rw [sFirst, List.length_cons, sFirst_length r t, List.length_cons]
theorem sBlank_length (r : Bool) : ∀ (l : List Int) (x : Int), (sBlank r l x).length ≤ l.length
  | [], _ => Nat.le_refl _
  | n :: t, x => by
    have := sBlank_length r t (st r x + n)
    rw [sBlank, List.length_append, List.length_cons]
    split
    · rw [List.length_singleton]; omega
    · rw [List.length_nil]; omega
theorem sEnd_bound0 (r : Bool) : ∀ (l : List Int) (x : Int), (∀ n ∈ l, 0 ≤ n ∧ n ≤ 201) → x ≤ sEnd r l x ∧ sEnd r l x ≤ x + 202 * l.length
  | [], x, _ => by simp [sEnd]
  | n :: t, x, h => by
    have h1 := h n (by simp)
    have h2 := sEnd_bound0 r t (st r x + n) (fun m hm => h m (by simp [hm]))
    have h3 := st_ge r x
    rw [sEnd, List.length_cons]
    omega
theorem sEnd_bound (r : Bool) (l : List Int) (x : Int) (h : ∀ n ∈ l, 1 ≤ n ∧ n ≤ 200) : x ≤ sEnd r l x ∧ sEnd r l x ≤ x + 202 * l.length :=
  sEnd_bound0 r l x (fun n hn => by have := h n hn; omega)
theorem sFirst_bound (r : Bool) : ∀ (l : List Int) (x : Int), (∀ n ∈ l, 1 ≤ n ∧ n ≤ 200) → 0 ≤ x → x + 201 * l.length ≤ 100000 → ∀ s ∈ sFirst r l x, 0 ≤ s ∧ s ≤ 100000
  | [], x, _, _, _, s, hs => by simp [sFirst] at hs
  | n :: t, x, h, h0, hm, s, hs => by
    have h1 := h n (by simp)
    have h3 := st_ge r x
    rw [List.length_cons] at hm
    rw [sFirst, List.mem_cons] at hs
    rcases hs with rfl | hs
    · omega
    · exact sFirst_bound r t (st r x + n) (fun m hm => h m (by simp [hm])) (by omega) (by omega) s hs
theorem specStarts_gen (f : Int) (l : List Int) (r : Bool) (f0 : -1 ≤ f) (f1 : f ≤ 41) (l1 : l.length ≤ 21) (hx : ∀ n ∈ l, 0 ≤ n ∧ n ≤ 201) : Ev (fun k => spec_l02Starts.f k f l r) (sFirst r l (f + 1), sEnd r l (f + 1)) := by
  have loop : ∀ (d i : Nat), i + d = l.length → ∀ (x : Int) (out : List Int), out.length = i → 0 ≤ x → x ≤ 42 + 203 * i → Ev (fun k => spec_l02Starts.l0 k out x (i : Int) f l r) (out ++ sFirst r (l.drop i) x, sEnd r (l.drop i) x) := by
    intro d
    induction d with
    | zero =>
      intro i hi x out ho x0 x1
      rw [show l.drop i = [] from List.drop_of_length_le (by omega)]
      simp only [sFirst, sEnd, List.append_nil]
      exact Ev.step (f := fun _ => some (out, x)) (fun k => by rw [spec_l02Starts.l0, if_neg (by omega)]) (Ev.now _)
    | succ d ih =>
      intro i hi x out ho x0 x1
      have hn := hx (rd l (i : Int)) (rd_mem (by omega))
      have hs := st_ge r x
      have h := ih (i + 1) (by omega) (st r x + rd l (i : Int)) (out ++ [st r x]) (by simp [ho]) (by omega) (by omega)
      rw [drop_cons (xs := l) (i := i) (by omega), sFirst, sEnd]
      rw [List.append_assoc] at h
      refine Ev.step (fun k => ?_) h
      rw [spec_l02Starts.l0, if_pos (by omega)]
      by_cases hr : r = true
      · rw [if_pos hr]
        by_cases ht : Int.tmod x 2 = 0
        · have e : st r x = x + 1 := if_pos ⟨hr, ht⟩
          rw [e] at hs ⊢
          rw [if_pos ht, if_pos (by omega), if_pos (by omega), w64 (x := x + 1) (by omega) (by omega), w64 (x := x + 1 + rd l (i : Int)) (by omega) (by omega), w64n i (by omega)]
        · have e : st r x = x := if_neg (fun z => ht z.2)
          rw [e] at hs ⊢
          rw [if_neg ht, if_pos (by omega), if_pos (by omega), w64 (x := x + rd l (i : Int)) (by omega) (by omega), w64n i (by omega)]
      · have e : st r x = x := if_neg (fun z => hr z.1)
        rw [e] at hs ⊢
        rw [if_neg hr, if_pos (by omega), if_pos (by omega), w64 (x := x + rd l (i : Int)) (by omega) (by omega), w64n i (by omega)]
  have := loop l.length 0 (by omega) (f + 1) [] rfl (by omega) (by omega)
  rw [List.drop_zero, List.nil_append] at this
  refine Ev.congr (fun k => ?_) this
  rw [spec_l02Starts.f, w64 (x := f + 1) (by omega) (by omega)]
  rfl
theorem specStarts_ev (f : Int) (l : List Int) (r : Bool) (hb : isBk f l = true) : Ev (fun k => spec_l02Starts.f k f l r) (sFirst r l (f + 1), sEnd r l (f + 1)) := by
  obtain ⟨f0, f1, l0, l1, hx⟩ := isBk_iff.1 hb
  exact specStarts_gen f l r (by omega) (by omega) (by omega) (fun n hn => by have := hx n hn; omega)
theorem implStarts_ev (f : Int) (l : List Int) (r : Bool) (hb : isBk f l = true) : Ev (fun k => impl_starts.f k f l r) (sFirst r l (f + 1), sBlank r l (f + 1), sEnd r l (f + 1) - 1) := by
  obtain ⟨f0, f1, l0, l1, hx⟩ := isBk_iff.1 hb
  have loop : ∀ (d i : Nat), i + d = l.length → ∀ (x : Int) (out bl : List Int), out.length = i → bl.length ≤ i → 0 ≤ x → x ≤ 41 + 201 * i → Ev (fun k => impl_starts.l0 k out bl x l (l.length : Int) (i : Int) f l r) (out ++ sFirst r (l.drop i) x, bl ++ sBlank r (l.drop i) x, sEnd r (l.drop i) x - 1) := by
    intro d
    induction d with
    | zero =>
      intro i hi x out bl ho hbl x0 x1
      rw [show l.drop i = [] from List.drop_of_length_le (by omega)]
      simp only [sFirst, sEnd, sBlank, List.append_nil]
      exact Ev.step (f := fun _ => some (out, bl, x - 1)) (fun k => by rw [impl_starts.l0, if_neg (by omega), w64 (x := x - 1) (by omega) (by omega)]) (Ev.now _)
    | succ d ih =>
      intro i hi x out bl ho hbl x0 x1
      have hn := hx (rd l (i : Int)) (rd_mem (by omega))
      have hs := st_ge r x
      rw [drop_cons (xs := l) (i := i) (by omega), sFirst, sEnd, sBlank]
      by_cases hr : r = true
      · by_cases ht : Int.tmod x 2 = 0
        · have e : st r x = x + 1 := if_pos ⟨hr, ht⟩
          have h := ih (i + 1) (by omega) (st r x + rd l (i : Int)) (out ++ [st r x]) (bl ++ [x]) (by simp [ho]) (by simp; omega) (by omega) (by omega)
          rw [List.append_assoc, List.append_assoc] at h
          rw [if_pos ⟨hr, ht⟩]
          refine Ev.step (fun k => ?_) h
          rw [e] at hs ⊢
          rw [impl_starts.l0, if_pos (by omega), if_pos (by omega), if_pos (by omega), if_pos hr, if_pos ht, if_pos (by omega), if_pos (by omega), w64 (x := x + 1) (by omega) (by omega), w64 (x := x + 1 + rd l (i : Int)) (by omega) (by omega), w64n i (by omega)]
        · have e : st r x = x := if_neg (fun z => ht z.2)
          have h := ih (i + 1) (by omega) (st r x + rd l (i : Int)) (out ++ [st r x]) bl (by simp [ho]) (by omega) (by omega) (by omega)
          rw [List.append_assoc] at h
          rw [if_neg (fun z => ht z.2), List.nil_append]
          refine Ev.step (fun k => ?_) h
          rw [e] at hs ⊢
          rw [impl_starts.l0, if_pos (by omega), if_pos (by omega), if_pos (by omega), if_pos hr, if_neg ht, if_pos (by omega), w64 (x := x + rd l (i : Int)) (by omega) (by omega), w64n i (by omega)]
      · have e : st r x = x := if_neg (fun z => hr z.1)
        have h := ih (i + 1) (by omega) (st r x + rd l (i : Int)) (out ++ [st r x]) bl (by simp [ho]) (by omega) (by omega) (by omega)
        rw [List.append_assoc] at h
        rw [if_neg (fun z => hr z.1), List.nil_append]
        refine Ev.step (fun k => ?_) h
        rw [e] at hs ⊢
        rw [impl_starts.l0, if_pos (by omega), if_pos (by omega), if_pos (by omega), if_neg hr, if_pos (by omega), w64 (x := x + rd l (i : Int)) (by omega) (by omega), w64n i (by omega)]
  have := loop l.length 0 (by omega) (f + 1) [] [] rfl (by simp) (by omega) (by omega)
  rw [List.drop_zero, List.nil_append, List.nil_append] at this
  refine Ev.congr (fun k => ?_) this
  rw [impl_starts.f, w64 (x := f + 1) (by omega) (by omega)]
  rfl
theorem implPageCount_ev (f : Int) (l : List Int) (r : Bool) : Ev (fun k => impl_PageCount.f k f l r) (if isBk f l = true then (sEnd r l (f + 1) - 1, 0) else (0, 1)) := by
  unfold impl_PageCount.f
  rw [implIsBook_eq]
  simp only [Option.bind_some]
  by_cases h : isBk f l = true
  · rw [if_pos h]
    exact Ev_ite_t h (Ev.bind (implStarts_ev f l r h) (Ev.now _))
  · rw [if_neg h]
    exact Ev_ite_f h (Ev.now _)
def mkb (l : List UInt8) : ByteArray := ⟨l.toArray⟩
theorem mkb_list (l : List UInt8) : (mkb l).toList = l := by rw [ByteArray.toList_eq]; rfl
theorem mkb_size (l : List UInt8) : (mkb l).size = l.length := by show l.toArray.size = _; exact List.size_toArray
theorem mkb_append (a b : List UInt8) : mkb a ++ mkb b = mkb (a ++ b) := by
  apply ByteArray.ext
  rw [ByteArray.data_append]
  show a.toArray ++ b.toArray = (a ++ b).toArray
  simp
theorem mkb_of (s : ByteArray) : s = mkb s.data.toList := by
  apply ByteArray.ext
  show s.data = s.data.toList.toArray
  simp
def digL (o f t : List UInt8) : Nat → List UInt8
  | 0 => []
  | 1 => o
  | 2 => o ++ o
  | 3 => o ++ o ++ o
  | 4 => o ++ f
  | 5 => f
  | 6 => f ++ o
  | 7 => f ++ o ++ o
  | 8 => f ++ o ++ o ++ o
  | _ => o ++ t
theorem dig_m : ∀ d : Fin 10, (spec_l02Digit.f 6 (d.val : Int) (mkb [109]) (mkb []) (mkb [])).map (fun s => s.data.toList) = some (digL [109] [] [] d.val) := by decide +kernel
theorem dig_c : ∀ d : Fin 10, (spec_l02Digit.f 6 (d.val : Int) (mkb [99]) (mkb [100]) (mkb [109])).map (fun s => s.data.toList) = some (digL [99] [100] [109] d.val) := by decide +kernel
theorem dig_x : ∀ d : Fin 10, (spec_l02Digit.f 6 (d.val : Int) (mkb [120]) (mkb [108]) (mkb [99])).map (fun s => s.data.toList) = some (digL [120] [108] [99] d.val) := by decide +kernel
theorem dig_i : ∀ d : Fin 10, (spec_l02Digit.f 6 (d.val : Int) (mkb [105]) (mkb [118]) (mkb [120])).map (fun s => s.data.toList) = some (digL [105] [118] [120] d.val) := by decide +kernel
theorem of_map {x : Option ByteArray} {l : List UInt8} (h : x.map (fun s => s.data.toList) = some l) : x = some (mkb l) := by
  cases x with
  | none => simp at h
  | some s =>
    simp only [Option.map_some, Option.some.injEq] at h
    rw [← h, ← mkb_of]
theorem dig_ev {o f t : ByteArray} {d : Nat} {l : List UInt8} (h : (spec_l02Digit.f 6 (d : Int) o f t).map (fun s => s.data.toList) = some l) : Ev (fun k => spec_l02Digit.f k (d : Int) o f t) (mkb l) := Ev.of (spec_l02Digit.mono _ _ _ _) (of_map h)
theorem dig_len (o f t : List UInt8) (ho : o.length ≤ 1) (hf : f.length ≤ 1) (ht : t.length ≤ 1) (d : Nat) : (digL o f t d).length ≤ 4 := by
  match d with
  | 0 | 1 | 2 | 3 | 4 | 5 | 6 | 7 | 8 | n + 9 => simp [digL] <;> omega
theorem rom_all2 : ∀ a : Fin 40, ∀ b : Fin 100, romAll romTab ((100 * a.val + b.val : Nat) : Int) [] = ((digL [109] [] [] ((100 * a.val + b.val) / 1000) ++ digL [99] [100] [109] ((100 * a.val + b.val) / 100 % 10)) ++ digL [120] [108] [99] ((100 * a.val + b.val) / 10 % 10)) ++ digL [105] [118] [120] ((100 * a.val + b.val) % 10) := by decide +kernel
theorem rom_all (n : Nat) (h : n < 4000) : romAll romTab (n : Int) [] = ((digL [109] [] [] (n / 1000) ++ digL [99] [100] [109] (n / 100 % 10)) ++ digL [120] [108] [99] (n / 10 % 10)) ++ digL [105] [118] [120] (n % 10) := by
  have := rom_all2 ⟨n / 100, by omega⟩ ⟨n % 100, by omega⟩
  simp only [show 100 * (n / 100) + n % 100 = n by omega] at this
  exact this
def romV (n : Int) : ByteArray := if 1 ≤ n ∧ n ≤ 3999 then mkb (romAll romTab n []) else mkb []
theorem implRoman_eq (n : Int) : impl_RomanText.f n = some (romV n) := by
  unfold impl_RomanText.f romV
  split
  · rfl
  · rfl
theorem specRoman_ev (n : Int) : Ev (fun k => spec_RomanText.f k n) (romV n) := by
  unfold spec_RomanText.f romV
  simp only [l01In_eq, Option.bind_some, decide_eq_true_eq]
  by_cases h : 1 ≤ n ∧ n ≤ 3999
  · rw [if_pos h]
    refine Ev_ite_t h ?_
    obtain ⟨m, rfl⟩ := Int.eq_ofNat_of_zero_le (show 0 ≤ n by omega)
    have hm : m < 4000 := by omega
    have e1 : wrap64 (Int.tdiv (m : Int) 1000) = ((m / 1000 : Nat) : Int) := by rw [Int.tdiv_eq_ediv_of_nonneg (by omega), w64 (by omega) (by omega)]; omega
    have e2 : Int.tmod (wrap64 (Int.tdiv (m : Int) 100)) 10 = ((m / 100 % 10 : Nat) : Int) := by rw [Int.tdiv_eq_ediv_of_nonneg (by omega), w64 (by omega) (by omega), Int.tmod_eq_emod_of_nonneg (by omega)]; omega
    have e3 : Int.tmod (wrap64 (Int.tdiv (m : Int) 10)) 10 = ((m / 10 % 10 : Nat) : Int) := by rw [Int.tdiv_eq_ediv_of_nonneg (by omega), w64 (by omega) (by omega), Int.tmod_eq_emod_of_nonneg (by omega)]; omega
    have e4 : Int.tmod (m : Int) 10 = ((m % 10 : Nat) : Int) := by rw [Int.tmod_eq_emod_of_nonneg (by omega)]; omega
    rw [e1, e2, e3, e4]
    have l1 := dig_len [109] [] [] (by simp) (by simp) (by simp) (m / 1000)
    have l2 := dig_len [99] [100] [109] (by simp) (by simp) (by simp) (m / 100 % 10)
    have l3 := dig_len [120] [108] [99] (by simp) (by simp) (by simp) (m / 10 % 10)
    have l4 := dig_len [105] [118] [120] (by simp) (by simp) (by simp) (m % 10)
    have hall := rom_all m hm
    rw [hall]
    have d1 := dig_ev (dig_m ⟨m / 1000, by omega⟩)
    have d2 := dig_ev (dig_c ⟨m / 100 % 10, by omega⟩)
    have d3 := dig_ev (dig_x ⟨m / 10 % 10, by omega⟩)
    have d4 := dig_ev (dig_i ⟨m % 10, by omega⟩)
    simp only at d1 d2 d3 d4
    generalize digL [109] [] [] (m / 1000) = x1 at *
    generalize digL [99] [100] [109] (m / 100 % 10) = x2 at *
    generalize digL [120] [108] [99] (m / 10 % 10) = x3 at *
    generalize digL [105] [118] [120] (m % 10) = x4 at *
    refine Ev.bind d1 (Ev.bind d2 (Ev_ite_t (by rw [mkb_size, mkb_size]; omega) (Ev.bind d3 (Ev_ite_t (by rw [mkb_append, mkb_size, mkb_size, List.length_append]; omega) (Ev.bind d4 (Ev_ite_t (by rw [mkb_append, mkb_append, mkb_size, mkb_size, List.length_append, List.length_append]; omega) ?_))))))
    rw [mkb_append, mkb_append, mkb_append]
    exact Ev.now _
  · rw [if_neg h]
    exact Ev_ite_f h (Ev.now _)
def dgs (n : Nat) : List UInt8 := Go.Lib.decDigits n
theorem dgs_one {n : Nat} (h : n < 10) : dgs n = [UInt8.ofNat (48 + n)] := Go.Lib.decDigits_one h
theorem dgs_more {n : Nat} (h : ¬ n < 10) : dgs n = dgs (n / 10) ++ [UInt8.ofNat (48 + n % 10)] := by
  unfold dgs
  rw [Go.Lib.decDigits, dif_neg h]
theorem dgs_len (n : Nat) : 1 ≤ (dgs n).length ∧ (dgs n).length ≤ n + 1 := by
  induction n using Nat.strongRecOn with
  | ind n ih =>
    by_cases h : n < 10
    · rw [dgs_one h]; simp
    · rw [dgs_more h, List.length_append]
      have := ih (n / 10) (by omega)
      simp only [List.length_singleton]
      omega
theorem str_dig : ∀ d : Fin 10, (strOfNums [(wrap64 (48 + (d.val : Int))) % 256]).data.toList = [UInt8.ofNat (48 + d.val)] := by decide +kernel
theorem str_dig' (d : Nat) (h : d < 10) : strOfNums [(wrap64 (48 + (d : Int))) % 256] = mkb [UInt8.ofNat (48 + d)] := by
  have := str_dig ⟨d, h⟩
  rw [mkb_of (strOfNums [(wrap64 (48 + (d : Int))) % 256])]
  exact congrArg mkb this
theorem dec_ev (n : Nat) : n ≤ 9223372036854775807 → Ev (fun k => spec_l01Dec.f k (n : Int)) (mkb (dgs n)) := by
  induction n using Nat.strongRecOn with
  | ind n ih =>
    intro hn
    by_cases h : n < 10
    · refine Ev.step (f := fun _ => some (mkb (dgs n))) (fun k => ?_) (Ev.now _)
      rw [spec_l01Dec.f, if_pos (by omega), dgs_one h, str_dig' n h]
    · rw [dgs_more h]
      have e1 : wrap64 (Int.tdiv (n : Int) 10) = ((n / 10 : Nat) : Int) := by rw [Int.tdiv_eq_ediv_of_nonneg (by omega), w64 (by omega) (by omega)]; omega
      have e2 : Int.tmod (n : Int) 10 = ((n % 10 : Nat) : Int) := by rw [Int.tmod_eq_emod_of_nonneg (by omega)]; omega
      have hl := dgs_len (n / 10)
      refine Ev.step (f := fun k => (spec_l01Dec.f k ((n / 10 : Nat) : Int)).bind fun t => if t.size + (mkb [UInt8.ofNat (48 + n % 10)]).size ≤ 9223372036854775807 then some (t ++ mkb [UInt8.ofNat (48 + n % 10)]) else none) (fun k => ?_) ?_
      · rw [spec_l01Dec.f, if_neg (by omega), e1, e2]
        simp only [Option.bind_some]
        rw [str_dig' (n % 10) (by omega)]
      · refine Ev.bind (ih (n / 10) (by omega) (by omega)) ?_
        refine Ev_ite_t (by rw [mkb_size, mkb_size]; simp only [List.length_singleton]; omega) ?_
        rw [mkb_append]
        exact Ev.now _
theorem impl_dec (n : Nat) (hn : n ≤ 9223372036854775807) : impl_decimal.f (n : Int) = some (mkb (dgs n)) := by
  unfold impl_decimal.f
  rw [if_pos (by omega)]
  show some (mkb (Go.Lib.itoa (n : Int))) = _
  rw [Go.Lib.itoa_nonneg]
  rfl
def lbl (f : Int) (l : List Int) (r : Bool) (p : Int) : ByteArray := if p < rd (sFirst r l (f + 1)) 0 then romV p else mkb (dgs (p - rd (sFirst r l (f + 1)) 0 + 1).toNat)
theorem first_facts {f : Int} {l : List Int} {r : Bool} (hb : isBk f l = true) : 0 < ((sFirst r l (f + 1)).length : Int) ∧ 0 ≤ rd (sFirst r l (f + 1)) 0 ∧ rd (sFirst r l (f + 1)) 0 ≤ 42 := by
  obtain ⟨f0, f1, l0, l1, hx⟩ := isBk_iff.1 hb
  have hlen := sFirst_length r l (f + 1)
  cases l with
  | nil => simp at l0
  | cons n t =>
    refine ⟨by rw [hlen, List.length_cons]; omega, ?_⟩
    have h3 := st_ge r (f + 1)
    have e : rd (sFirst r (n :: t) (f + 1)) 0 = st r (f + 1) := by rw [sFirst]; rfl
    rw [e]
    omega
theorem specLabel_ev {f : Int} {l : List Int} {r : Bool} (hb : isBk f l = true) (p : Int) (h0 : 0 ≤ p) (h1 : p ≤ 100000) : Ev (fun k => spec_l02Label.f k f l r p) (lbl f l r p) := by
  obtain ⟨h2, h3, h4⟩ := first_facts (r := r) hb
  unfold spec_l02Label.f lbl
  refine Ev.bind (specStarts_ev f l r hb) (Ev_ite_t h2 ?_)
  simp only
  by_cases h : p < rd (sFirst r l (f + 1)) 0
  · rw [if_pos h]
    exact Ev_ite_t h (Ev.bind (specRoman_ev p) (Ev.now _))
  · rw [if_neg h, w64 (x := p - rd (sFirst r l (f + 1)) 0) (by omega) (by omega), w64 (x := p - rd (sFirst r l (f + 1)) 0 + 1) (by omega) (by omega)]
    have e : p - rd (sFirst r l (f + 1)) 0 + 1 = ((p - rd (sFirst r l (f + 1)) 0 + 1).toNat : Int) := by omega
    refine Ev_ite_f h ?_
    have := dec_ev (p - rd (sFirst r l (f + 1)) 0 + 1).toNat (by omega)
    rw [← e] at this
    exact Ev.bind this (Ev.now _)
theorem implLabel_ev {f : Int} {l : List Int} {r : Bool} (hb : isBk f l = true) (p : Int) (h0 : 0 ≤ p) (h1 : p ≤ 100000) : Ev (fun k => impl_labelOf.f k f l r p) (lbl f l r p) := by
  obtain ⟨h2, h3, h4⟩ := first_facts (r := r) hb
  unfold impl_labelOf.f lbl
  refine Ev.bind (implStarts_ev f l r hb) (Ev_ite_t h2 ?_)
  simp only
  by_cases h : p < rd (sFirst r l (f + 1)) 0
  · simp only [if_pos h, implRoman_eq, Option.bind_some]
    exact Ev.now _
  · have e : p - rd (sFirst r l (f + 1)) 0 + 1 = ((p - rd (sFirst r l (f + 1)) 0 + 1).toNat : Int) := by omega
    have := impl_dec (p - rd (sFirst r l (f + 1)) 0 + 1).toNat (by omega)
    rw [← e] at this
    simp only [if_neg h, w64 (x := p - rd (sFirst r l (f + 1)) 0) (by omega) (by omega), w64 (x := p - rd (sFirst r l (f + 1)) 0 + 1) (by omega) (by omega), this, Option.bind_some]
    exact Ev.now _
def plGo (f : Int) (l : List Int) (r : Bool) (s : ByteArray) : Nat → Int → Int × Int
  | 0, _ => (0, 4)
  | d + 1, p => if (lbl f l r p).toList = s.toList then (p, 0) else plGo f l r s d (p + 1)
def plOf (f : Int) (l : List Int) (r : Bool) (s : ByteArray) : Int × Int := if isBk f l = true then plGo f l r s (sEnd r l (f + 1) - 1).toNat 1 else (0, 1)
theorem specPageOf_ev (f : Int) (l : List Int) (r : Bool) (s : ByteArray) (hl : l.length ≤ 35184372088832) : Ev (fun k => spec_PageOfLabel.f k f l r s) (plOf f l r s) := by
  unfold spec_PageOfLabel.f plOf
  refine Ev.bind (specIsBook_ev f l r hl) ?_
  by_cases hb : isBk f l = true
  · rw [if_pos hb]
    refine Ev_ite_t hb (Ev.bind (specStarts_ev f l r hb) ?_)
    obtain ⟨f0, f1, l0, l1, hx⟩ := isBk_iff.1 hb
    have hE := sEnd_bound r l (f + 1) hx
    have loop : ∀ (d : Nat) (p : Int), p + d = sEnd r l (f + 1) → 1 ≤ p → Ev (fun k => spec_PageOfLabel.l0 k s (sEnd r l (f + 1)) p f l r) (plGo f l r s d p) := by
      intro d
      induction d with
      | zero => intro p hp h1; exact Ev.step (f := fun _ => some (0, 4)) (fun k => by rw [spec_PageOfLabel.l0, if_neg (by omega)]) (Ev.now _)
      | succ d ih =>
        intro p hp h1
        refine Ev.step (f := fun k => (spec_l02Label.f k f l r p).bind fun t => if t.toList = s.toList then some (p, 0) else spec_PageOfLabel.l0 k s (sEnd r l (f + 1)) (p + 1) f l r) (fun k => by rw [spec_PageOfLabel.l0, if_pos (by omega), w64 (x := p + 1) (by omega) (by omega)]) ?_
        refine Ev.bind (specLabel_ev hb p (by omega) (by omega)) ?_
        rw [plGo]
        by_cases h : (lbl f l r p).toList = s.toList
        · simp only [if_pos h]; exact Ev.now _
        · simp only [if_neg h]; exact ih (p + 1) (by omega) (by omega)
    exact Ev.congr (fun k => rfl) (loop (sEnd r l (f + 1) - 1).toNat 1 (by omega) (by omega))
  · rw [if_neg hb]; exact Ev_ite_f hb (Ev.now _)
theorem implPageOf_ev (f : Int) (l : List Int) (r : Bool) (s : ByteArray) : Ev (fun k => impl_PageOfLabel.f k f l r s) (plOf f l r s) := by
  unfold impl_PageOfLabel.f plOf
  refine Ev.bind (implPageCount_ev f l r) ?_
  by_cases hb : isBk f l = true
  · simp only [if_pos hb]
    obtain ⟨f0, f1, l0, l1, hx⟩ := isBk_iff.1 hb
    have hE := sEnd_bound r l (f + 1) hx
    have loop : ∀ (d : Nat) (p : Int), p + d = sEnd r l (f + 1) → 1 ≤ p → Ev (fun k => impl_PageOfLabel.l0 k s (sEnd r l (f + 1) - 1) p f l r) (plGo f l r s d p) := by
      intro d
      induction d with
      | zero => intro p hp h1; exact Ev.step (f := fun _ => some (0, 4)) (fun k => by rw [impl_PageOfLabel.l0, if_neg (by omega)]) (Ev.now _)
      | succ d ih =>
        intro p hp h1
        refine Ev.step (f := fun k => (impl_labelOf.f k f l r p).bind fun t => if t.toList = s.toList then some (p, 0) else impl_PageOfLabel.l0 k s (sEnd r l (f + 1) - 1) (p + 1) f l r) (fun k => by rw [impl_PageOfLabel.l0, if_pos (by omega), w64 (x := p + 1) (by omega) (by omega)]) ?_
        refine Ev.bind (implLabel_ev hb p (by omega) (by omega)) ?_
        rw [plGo]
        by_cases h : (lbl f l r p).toList = s.toList
        · simp only [if_pos h]; exact Ev.now _
        · simp only [if_neg h]; exact ih (p + 1) (by omega) (by omega)
    exact Ev.congr (fun k => rfl) (loop (sEnd r l (f + 1) - 1).toNat 1 (by omega) (by omega))
  · simp only [if_neg hb]
    exact Ev_ite_f (by simp) (Ev.now _)
theorem toInt64S_ev (l : List Int) (hl : l.length ≤ 35184372088832) : Ev (fun k => laws_toInt64S.f k l) l := by
  have loop : ∀ (d i : Nat), i + d = l.length → ∀ x : List Int, x.length = l.length → (∀ j : Nat, j < i → rd x (j : Int) = rd l (j : Int)) → Ev (fun k => laws_toInt64S.l0 k l x (i : Int)) l := by
    intro d
    induction d with
    | zero =>
      intro i hi x hx h
      obtain rfl : x = l := rd_ext hx (fun j hj => h j (by omega))
      refine Ev.step (f := fun _ => some x) (fun k => by rw [laws_toInt64S.l0, if_neg (by omega)]) (Ev.now _)
    | succ d ih =>
      intro i hi x hx h
      refine Ev.step (f := fun k => laws_toInt64S.l0 k l (x.set i (rd l (i : Int))) ((i + 1 : Nat) : Int)) (fun k => by rw [laws_toInt64S.l0, if_pos (by omega), if_pos (by omega), if_pos (by omega), w64n i (by omega), toNat_cast]) ?_
      refine ih (i + 1) (by omega) _ (by rw [List.length_set]; exact hx) (fun j hj => ?_)
      rw [rd_set (by omega)]
      by_cases e : i = j
      · rw [if_pos e, e]
      · rw [if_neg e]; exact h j (by omega)
  refine Ev.congr (f := fun k => laws_toInt64S.l0 k l (List.replicate l.length 0) ((0 : Nat) : Int)) (fun k => ?_) (loop l.length 0 (by omega) _ (by simp) (fun j hj => by omega))
  simp only [laws_toInt64S.f, toNat_cast]
  rw [if_pos (by omega), if_pos (by omega)]
  rfl
theorem eqInt64S_ev (l : List Int) (hl : l.length ≤ 35184372088832) : Ev (fun k => laws_eqInt64S.f k l l) true := by
  have loop : ∀ (d i : Nat), i + d = l.length → Ev (fun k => laws_eqInt64S.l0 k l l (i : Int)) true := by
    intro d
    induction d with
    | zero =>
      intro i hi
      refine Ev.step (f := fun _ => some true) (fun k => by rw [laws_eqInt64S.l0, if_neg (by omega)]) (Ev.now _)
    | succ d ih =>
      intro i hi
      refine Ev.step (f := fun k => laws_eqInt64S.l0 k l l ((i + 1 : Nat) : Int)) (fun k => by rw [laws_eqInt64S.l0, if_pos (by omega), if_pos (by omega), if_pos (by omega), if_pos rfl, w64n i (by omega)]) ?_
      exact ih (i + 1) (by omega)
  refine Ev.congr (f := fun k => laws_eqInt64S.l0 k l l ((0 : Nat) : Int)) (fun k => ?_) (loop l.length 0 (by omega))
  simp only [laws_eqInt64S.f, if_true]
  rfl
theorem szBook_eq (f : Int) (l : List Int) (r : Bool) (hl : l.length ≤ maxLen) : laws_szBook.f f l r 1048576 = some (if (l.length : Int) > 1048576 then (-1 : Int) else 1048576 - (l.length : Int)) := by
  rw [maxLen_eq] at hl
  unfold laws_szBook.f laws_szInt64S.f
  rw [w64 (x := 1048576 - (l.length : Int)) (by omega) (by omega)]
  by_cases h : (l.length : Int) > 1048576
  · rw [if_pos (by omega), if_pos h]; rfl
  · rw [if_neg (by omega), if_neg h]
    simp only [Option.bind_some]
    rw [if_neg (by omega)]
theorem toBook_ev (f : Int) (l : List Int) (r : Bool) (hl : l.length ≤ 35184372088832) : Ev (fun k => laws_toBook.f k f l r) (f, l, r) := by
  unfold laws_toBook.f
  exact Ev.bind (toInt64S_ev l hl) (Ev.now _)
theorem eqBook_ev (f : Int) (l : List Int) (r : Bool) (hl : l.length ≤ 35184372088832) : Ev (fun k => laws_eqBook.f k f l r f l r) true := by
  unfold laws_eqBook.f
  exact Ev_ite_t rfl (Ev.bind (eqInt64S_ev l hl) (Ev_ite_t rfl (Ev_ite_f (by simp) (Ev.now _))))
theorem FnExactPageOfLabel : laws_FnExactPageOfLabel.Pure := by
  intro f l r s hf hl hw hs
  apply Ev.rounds
  unfold laws_FnExactPageOfLabel.f
  by_cases ha : (s.size : Int) > 1048576
  · exact Ev_ite_t ha (Ev.now _)
  refine Ev_ite_f ha ?_
  rw [szBook_eq f l r hl]
  simp only [Option.bind_some]
  by_cases hb : (l.length : Int) > 1048576
  · exact Ev_ite_t (by rw [if_pos hb]; omega) (Ev.now _)
  · refine Ev_ite_f (by rw [if_neg hb]; omega) ?_
    have t := toBook_ev f l r (by omega)
    refine Ev.bind t (Ev.bind (specPageOf_ev f l r s (by omega)) (Ev.bind t (Ev.bind (implPageOf_ev f l r s) (Ev_ite_t rfl ?_))))
    refine Ev.step (fun k => by rw [laws_FnExactPageOfLabel.j0, if_neg (by simp)]) ?_
    exact Ev.bind t (Ev.bind (eqBook_ev f l r (by omega)) (Ev_ite_t rfl (Ev.now _)))

end Go.Proofs.YtgnopkapkodhhaaDoor.Pure
