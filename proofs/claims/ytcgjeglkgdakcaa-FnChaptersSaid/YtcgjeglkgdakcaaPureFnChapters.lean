/- The pure statement of FnChapters: for every input that the row lets in, the law's Lean function answers true; no further condition. -/
import Derived.Test.YtcgjeglkgdakcaaQFnChaptersx7
set_option linter.unusedVariables false
set_option linter.unusedSimpArgs false
namespace Go.Proofs.Ytcgjeglkgdakcaa.Pure
open Go.RowKit Go.Proofs.Ytcgjeglkgdakcaa.QFnChapters Go.Proofs.YtcgjeglkgdakcaaW.PrintWords Go.Proofs.YtcgjeglkgdakcaaW.PrintLast

theorem w64 {x : Int} (h0 : -9223372036854775808 ≤ x) (h1 : x ≤ 9223372036854775807) : wrap64 x = x := by unfold wrap64; omega
theorem wz : wrap64 0 = 0 := w64 (by omega) (by omega)
theorem w64_range (x : Int) : -9223372036854775808 ≤ wrap64 x ∧ wrap64 x ≤ 9223372036854775807 := by unfold wrap64; omega
theorem wf64 {x : Int} (h : (Lit.int .i64 x).wf = true) : -9223372036854775808 ≤ x ∧ x ≤ 9223372036854775807 := by
  have h' : (decide (IntKind.i64.min ≤ x) && decide (x ≤ IntKind.i64.max)) = true := h
  simp only [Bool.and_eq_true, decide_eq_true_eq] at h'
  exact h'
theorem wf8 {x : Int} (h : (Lit.int .u8 x).wf = true) : 0 ≤ x ∧ x ≤ 255 := by
  have h' : (decide (IntKind.u8.min ≤ x) && decide (x ≤ IntKind.u8.max)) = true := h
  simp only [Bool.and_eq_true, decide_eq_true_eq] at h'
  exact h'
theorem rd_get {xs : List Int} {i : Nat} (h : i < xs.length) : rd xs (i : Int) = xs[i] := by
  simp [rd, List.getD_eq_getElem?_getD, h]
theorem rd_nat (xs : List Int) (i : Nat) : rd xs (i : Int) = xs.getD i 0 := by simp [rd]
theorem rd_mem {xs : List Int} {i : Nat} (h : i < xs.length) : rd xs (i : Int) ∈ xs := by rw [rd_get h]; exact List.getElem_mem h
theorem rd_ext {xs ys : List Int} (hl : xs.length = ys.length) (h : ∀ i : Nat, i < xs.length → rd xs (i : Int) = rd ys (i : Int)) : xs = ys := by
  apply List.ext_getElem hl
  intro i h1 h2
  have := h i h1
  rwa [rd_get h1, rd_get h2] at this
theorem rd_set {xs : List Int} {i j : Nat} {v : Int} (hi : i < xs.length) : rd (xs.set i v) (j : Int) = if i = j then v else rd xs (j : Int) := by
  simp only [rd_nat, List.getD_eq_getElem?_getD, List.getElem?_set]
  by_cases h : i = j
  · subst h; simp [hi]
  · simp [h]
theorem rd_append_left {xs ys : List Int} {j : Nat} (h : j < xs.length) : rd (xs ++ ys) (j : Int) = rd xs (j : Int) := by
  simp only [rd_nat, List.getD_eq_getElem?_getD, List.getElem?_append_left h]
theorem rd_append_at {xs : List Int} {v : Int} : rd (xs ++ [v]) (xs.length : Int) = v := by
  simp [rd_nat, List.getD_eq_getElem?_getD]
theorem rd_take {xs : List Int} {i j : Nat} (h : j < i) : rd (xs.take i) (j : Int) = rd xs (j : Int) := by
  simp [rd_nat, List.getD_eq_getElem?_getD, List.getElem?_take, h]
theorem rd_drop {xs : List Int} {i j : Nat} : rd (xs.drop i) (j : Int) = rd xs ((i + j : Nat) : Int) := by
  simp only [rd_nat, List.getD_eq_getElem?_getD, List.getElem?_drop]
theorem toNat_cast (i : Nat) : ((i : Nat) : Int).toNat = i := Int.toNat_natCast i
theorem drop_cons {xs : List Int} {i : Nat} (h : i < xs.length) : xs.drop i = rd xs (i : Int) :: xs.drop (i + 1) := by
  rw [rd_get h]; exact List.drop_eq_getElem_cons h
theorem Ev_ite_t {α : Type} {c : Prop} [Decidable c] {f g : Nat → Option α} {r : α} (h : c) (k : Ev f r) : Ev (fun n => if c then f n else g n) r :=
  Ev.congr (fun _ => if_pos h) k
theorem Ev_ite_f {α : Type} {c : Prop} [Decidable c] {f g : Nat → Option α} {r : α} (h : ¬ c) (k : Ev g r) : Ev (fun n => if c then f n else g n) r :=
  Ev.congr (fun _ => if_neg h) k
theorem w64n (i : Nat) (h : i < 9223372036854775807) : wrap64 ((i : Int) + 1) = ((i + 1 : Nat) : Int) := by
  rw [w64 (by omega) (by omega)]; rfl
theorem wrap_add_wrap (a b : Int) : wrap64 (wrap64 a + b) = wrap64 (a + b) := by unfold wrap64; omega
theorem wrap_add_wrap' (a b : Int) : wrap64 (a + wrap64 b) = wrap64 (a + b) := by unfold wrap64; omega
theorem EvE_bind {α β : Type} {g : Nat → Option α} {f : Nat → α → Option β} {a : α} (h : Ev g a) (k : ∃ r, Ev (fun n => f n a) r) : ∃ r, Ev (fun n => (g n).bind (f n)) r := by
  obtain ⟨r, k⟩ := k
  exact ⟨r, Ev.bind h k⟩
theorem EvE_now {α : Type} (a : α) : ∃ r, Ev (fun _ : Nat => some a) r := ⟨a, Ev.now a⟩
theorem EvE_ite_t {α : Type} {c : Prop} [Decidable c] {f g : Nat → Option α} (h : c) (k : ∃ r, Ev f r) : ∃ r, Ev (fun n => if c then f n else g n) r := by
  obtain ⟨r, k⟩ := k
  exact ⟨r, Ev_ite_t h k⟩
theorem EvE_ite_f {α : Type} {c : Prop} [Decidable c] {f g : Nat → Option α} (h : ¬ c) (k : ∃ r, Ev g r) : ∃ r, Ev (fun n => if c then f n else g n) r := by
  obtain ⟨r, k⟩ := k
  exact ⟨r, Ev_ite_f h k⟩
theorem l01In_eq (n a b : Int) : spec_l01In.f n a b = some (decide (a ≤ n ∧ n ≤ b)) := by
  unfold spec_l01In.f
  by_cases h : n ≥ a
  · rw [if_pos h]; simp [show a ≤ n from h]
  · rw [if_neg h]; simp [show ¬ a ≤ n from h]
theorem inRange_eq (n a b : Int) : impl_inRange.f n a b = some (decide (a ≤ n ∧ n ≤ b)) := by
  unfold impl_inRange.f
  by_cases h : a ≤ n
  · rw [if_pos h]; simp [h]
  · rw [if_neg h]; simp [h]
theorem maxLen_eq : maxLen = 9223372036854775807 := by decide
def isBk (f : Int) (l : List Int) : Bool := decide (0 ≤ f ∧ f ≤ 40 ∧ 1 ≤ l.length ∧ l.length ≤ 20 ∧ ∀ x ∈ l, 1 ≤ x ∧ x ≤ 200)
theorem isBk_iff {f : Int} {l : List Int} : isBk f l = true ↔ 0 ≤ f ∧ f ≤ 40 ∧ 1 ≤ l.length ∧ l.length ≤ 20 ∧ ∀ x ∈ l, 1 ≤ x ∧ x ≤ 200 := by unfold isBk; exact decide_eq_true_iff
theorem within_ev (l : List Int) (m lo hi : Int) (hl : l.length ≤ 35184372088832) (b : Bool) (hb : b = true ↔ (l.length : Int) ≤ m ∧ ∀ x ∈ l, lo ≤ x ∧ x ≤ hi) : Ev (fun k => spec_l01Within.f k l m lo hi) b := by
  have loop : ∀ (d i : Nat), i + d = l.length → ∀ b : Bool, (b = true ↔ (l.length : Int) ≤ m ∧ ∀ x ∈ l.drop i, lo ≤ x ∧ x ≤ hi) → Ev (fun k => spec_l01Within.l0 k l m lo hi (i : Int)) b := by
    intro d
    induction d with
    | zero =>
      intro i hi' b hb
      have e : b = decide ((l.length : Int) ≤ m) := by
        rw [Bool.eq_iff_iff, hb, decide_eq_true_iff, show l.drop i = [] from List.drop_of_length_le (by omega)]
        exact ⟨fun h => h.1, fun h => ⟨h, fun x hx => by simp at hx⟩⟩
      rw [e]
      exact Ev.step (f := fun _ => some (decide ((l.length : Int) ≤ m))) (fun k => by rw [spec_l01Within.l0, if_neg (by omega)]) (Ev.now _)
    | succ d ih =>
      intro i hi' b hb
      refine Ev.step (f := fun k => if decide (lo ≤ rd l (i : Int) ∧ rd l (i : Int) ≤ hi) = true then spec_l01Within.l0 k l m lo hi ((i + 1 : Nat) : Int) else some false) (fun k => by rw [spec_l01Within.l0, if_pos (by omega), if_pos (by omega), l01In_eq, w64n i (by omega)]; rfl) ?_
      rw [drop_cons (xs := l) (i := i) (by omega)] at hb
      simp only [List.mem_cons, forall_eq_or_imp] at hb
      by_cases h : lo ≤ rd l (i : Int) ∧ rd l (i : Int) ≤ hi
      · refine Ev_ite_t (decide_eq_true h) (ih (i + 1) (by omega) b ?_)
        rw [hb]
        exact ⟨fun x => ⟨x.1, x.2.2⟩, fun x => ⟨x.1, h, x.2⟩⟩
      · have e : b = false := by
          rw [Bool.eq_false_iff]; intro hbt
          exact h (hb.1 hbt).2.1
        rw [e]
        exact Ev_ite_f (by rw [decide_eq_true_iff]; exact h) (Ev.now _)
  have := loop l.length 0 (by omega) b (by rw [List.drop_zero]; exact hb)
  exact Ev.congr (fun k => rfl) this
theorem specIsBook_ev (f : Int) (l : List Int) (r : Bool) (hl : l.length ≤ 35184372088832) : Ev (fun k => spec_IsBook.f k f l r) (isBk f l) := by
  unfold spec_IsBook.f
  simp only [l01In_eq, Option.bind_some, decide_eq_true_eq]
  by_cases h1 : 0 ≤ f ∧ f ≤ 40
  · refine Ev_ite_t h1 ?_
    by_cases h2 : (l.length : Int) > 0
    · refine Ev_ite_t h2 (Ev.bind (within_ev l 20 1 200 hl (isBk f l) ?_) (Ev.now _))
      rw [isBk_iff]
      constructor
      · rintro ⟨_, _, _, a, b⟩; exact ⟨by omega, b⟩
      · rintro ⟨a, b⟩; exact ⟨h1.1, h1.2, by omega, by omega, b⟩
    · have e : isBk f l = false := by rw [Bool.eq_false_iff]; intro h; have := isBk_iff.1 h; omega
      rw [e]
      exact Ev_ite_f h2 (Ev.now _)
  · have e : isBk f l = false := by rw [Bool.eq_false_iff]; intro h; have := isBk_iff.1 h; omega
    rw [e]
    exact Ev_ite_f h1 (Ev.now _)
theorem allIn_eq (l : List Int) (lo hi : Int) : impl_allIn.f l lo hi = some (decide (∀ x ∈ l, lo ≤ x ∧ x ≤ hi)) := by
  unfold impl_allIn.f
  congr 1
  rw [Bool.eq_iff_iff, decide_eq_true_iff, Bool.not_eq_true', List.any_eq_false]
  unfold allIn_out
  constructor
  · intro h x hx; simpa using h x hx
  · intro h x hx; simpa using h x hx
theorem implIsBook_eq (f : Int) (l : List Int) (r : Bool) : impl_IsBook.f f l r = some (isBk f l) := by
  unfold impl_IsBook.f impl_length_int64.f
  simp only [inRange_eq, allIn_eq, Option.bind_some, decide_eq_true_eq]
  by_cases h1 : 0 ≤ f ∧ f ≤ 40
  · rw [if_pos h1]
    by_cases h2 : 1 ≤ (l.length : Int) ∧ (l.length : Int) ≤ 20
    · rw [if_pos h2]
      unfold isBk
      congr 1
      rw [decide_eq_decide]
      constructor
      · intro b; exact ⟨h1.1, h1.2, by omega, by omega, b⟩
      · rintro ⟨_, _, _, _, b⟩; exact b
    · rw [if_neg h2]
      congr 1
      symm
      rw [Bool.eq_false_iff]; intro h; have := isBk_iff.1 h; omega
  · rw [if_neg h1]
    congr 1
    symm
    rw [Bool.eq_false_iff]; intro h; have := isBk_iff.1 h; omega
def st (r : Bool) (x : Int) : Int := if r = true ∧ Int.tmod x 2 = 0 then x + 1 else x
def sFirst (r : Bool) : List Int → Int → List Int
  | [], _ => []
  | n :: t, x => st r x :: sFirst r t (st r x + n)
def sBlank (r : Bool) : List Int → Int → List Int
  | [], _ => []
  | n :: t, x => (if r = true ∧ Int.tmod x 2 = 0 then [x] else []) ++ sBlank r t (st r x + n)
def sEnd (r : Bool) : List Int → Int → Int
  | [], x => x
  | n :: t, x => sEnd r t (st r x + n)
theorem st_ge (r : Bool) (x : Int) : x ≤ st r x ∧ st r x ≤ x + 1 := by unfold st; split <;> omega
theorem sFirst_length (r : Bool) : ∀ (l : List Int) (x : Int), (sFirst r l x).length = l.length
  | [], _ => rfl
  | n :: t, x => by rw [sFirst, List.length_cons, sFirst_length r t, List.length_cons]
theorem sBlank_length (r : Bool) : ∀ (l : List Int) (x : Int), (sBlank r l x).length ≤ l.length
  | [], _ => Nat.le_refl _
  | n :: t, x => by
    have := sBlank_length r t (st r x + n)
    rw [sBlank, List.length_append, List.length_cons]
    split
    · rw [List.length_singleton]; omega
    · rw [List.length_nil]; omega
theorem sEnd_bound0 (r : Bool) : ∀ (l : List Int) (x : Int), (∀ n ∈ l, 0 ≤ n ∧ n ≤ 201) → x ≤ sEnd r l x ∧ sEnd r l x ≤ x + 202 * l.length
  | [], x, _ => by simp [sEnd]
  | n :: t, x, h => by
    have h1 := h n (by simp)
    have h2 := sEnd_bound0 r t (st r x + n) (fun m hm => h m (by simp [hm]))
    have h3 := st_ge r x
    rw [sEnd, List.length_cons]
    omega
theorem sEnd_bound (r : Bool) (l : List Int) (x : Int) (h : ∀ n ∈ l, 1 ≤ n ∧ n ≤ 200) : x ≤ sEnd r l x ∧ sEnd r l x ≤ x + 202 * l.length :=
  sEnd_bound0 r l x (fun n hn => by have := h n hn; omega)
theorem sFirst_bound (r : Bool) : ∀ (l : List Int) (x : Int), (∀ n ∈ l, 1 ≤ n ∧ n ≤ 200) → 0 ≤ x → x + 201 * l.length ≤ 100000 → ∀ s ∈ sFirst r l x, 0 ≤ s ∧ s ≤ 100000
  | [], x, _, _, _, s, hs => by simp [sFirst] at hs
  | n :: t, x, h, h0, hm, s, hs => by
    have h1 := h n (by simp)
    have h3 := st_ge r x
    rw [List.length_cons] at hm
    rw [sFirst, List.mem_cons] at hs
    rcases hs with rfl | hs
    · omega
    · exact sFirst_bound r t (st r x + n) (fun m hm => h m (by simp [hm])) (by omega) (by omega) s hs
theorem specStarts_gen (f : Int) (l : List Int) (r : Bool) (f0 : -1 ≤ f) (f1 : f ≤ 41) (l1 : l.length ≤ 21) (hx : ∀ n ∈ l, 0 ≤ n ∧ n ≤ 201) : Ev (fun k => spec_l02Starts.f k f l r) (sFirst r l (f + 1), sEnd r l (f + 1)) := by
  have loop : ∀ (d i : Nat), i + d = l.length → ∀ (x : Int) (out : List Int), out.length = i → 0 ≤ x → x ≤ 42 + 203 * i → Ev (fun k => spec_l02Starts.l0 k out x (i : Int) f l r) (out ++ sFirst r (l.drop i) x, sEnd r (l.drop i) x) := by
    intro d
    induction d with
    | zero =>
      intro i hi x out ho x0 x1
      rw [show l.drop i = [] from List.drop_of_length_le (by omega)]
      simp only [sFirst, sEnd, List.append_nil]
      exact Ev.step (f := fun _ => some (out, x)) (fun k => by rw [spec_l02Starts.l0, if_neg (by omega)]) (Ev.now _)
    | succ d ih =>
      intro i hi x out ho x0 x1
      have hn := hx (rd l (i : Int)) (rd_mem (by omega))
      have hs := st_ge r x
      have h := ih (i + 1) (by omega) (st r x + rd l (i : Int)) (out ++ [st r x]) (by simp [ho]) (by omega) (by omega)
      rw [drop_cons (xs := l) (i := i) (by omega), sFirst, sEnd]
      rw [List.append_assoc] at h
      refine Ev.step (fun k => ?_) h
      rw [spec_l02Starts.l0, if_pos (by omega)]
      by_cases hr : r = true
      · rw [if_pos hr]
        by_cases ht : Int.tmod x 2 = 0
        · have e : st r x = x + 1 := if_pos ⟨hr, ht⟩
          rw [e] at hs ⊢
          rw [if_pos ht, if_pos (by omega), if_pos (by omega), w64 (x := x + 1) (by omega) (by omega), w64 (x := x + 1 + rd l (i : Int)) (by omega) (by omega), w64n i (by omega)]
        · have e : st r x = x := if_neg (fun z => ht z.2)
          rw [e] at hs ⊢
          rw [if_neg ht, if_pos (by omega), if_pos (by omega), w64 (x := x + rd l (i : Int)) (by omega) (by omega), w64n i (by omega)]
      · have e : st r x = x := if_neg (fun z => hr z.1)
        rw [e] at hs ⊢
        rw [if_neg hr, if_pos (by omega), if_pos (by omega), w64 (x := x + rd l (i : Int)) (by omega) (by omega), w64n i (by omega)]
  have := loop l.length 0 (by omega) (f + 1) [] rfl (by omega) (by omega)
  rw [List.drop_zero, List.nil_append] at this
  refine Ev.congr (fun k => ?_) this
  rw [spec_l02Starts.f, w64 (x := f + 1) (by omega) (by omega)]
  rfl
theorem specStarts_ev (f : Int) (l : List Int) (r : Bool) (hb : isBk f l = true) : Ev (fun k => spec_l02Starts.f k f l r) (sFirst r l (f + 1), sEnd r l (f + 1)) := by
  obtain ⟨f0, f1, l0, l1, hx⟩ := isBk_iff.1 hb
  exact specStarts_gen f l r (by omega) (by omega) (by omega) (fun n hn => by have := hx n hn; omega)
theorem implStarts_ev (f : Int) (l : List Int) (r : Bool) (hb : isBk f l = true) : Ev (fun k => impl_starts.f k f l r) (sFirst r l (f + 1), sBlank r l (f + 1), sEnd r l (f + 1) - 1) := by
  obtain ⟨f0, f1, l0, l1, hx⟩ := isBk_iff.1 hb
  have loop : ∀ (d i : Nat), i + d = l.length → ∀ (x : Int) (out bl : List Int), out.length = i → bl.length ≤ i → 0 ≤ x → x ≤ 41 + 201 * i → Ev (fun k => impl_starts.l0 k out bl x l (l.length : Int) (i : Int) f l r) (out ++ sFirst r (l.drop i) x, bl ++ sBlank r (l.drop i) x, sEnd r (l.drop i) x - 1) := by
    intro d
    induction d with
    | zero =>
      intro i hi x out bl ho hbl x0 x1
      rw [show l.drop i = [] from List.drop_of_length_le (by omega)]
      simp only [sFirst, sEnd, sBlank, List.append_nil]
      exact Ev.step (f := fun _ => some (out, bl, x - 1)) (fun k => by rw [impl_starts.l0, if_neg (by omega), w64 (x := x - 1) (by omega) (by omega)]) (Ev.now _)
    | succ d ih =>
      intro i hi x out bl ho hbl x0 x1
      have hn := hx (rd l (i : Int)) (rd_mem (by omega))
      have hs := st_ge r x
      rw [drop_cons (xs := l) (i := i) (by omega), sFirst, sEnd, sBlank]
      by_cases hr : r = true
      · by_cases ht : Int.tmod x 2 = 0
        · have e : st r x = x + 1 := if_pos ⟨hr, ht⟩
          have h := ih (i + 1) (by omega) (st r x + rd l (i : Int)) (out ++ [st r x]) (bl ++ [x]) (by simp [ho]) (by simp; omega) (by omega) (by omega)
          rw [List.append_assoc, List.append_assoc] at h
          rw [if_pos ⟨hr, ht⟩]
          refine Ev.step (fun k => ?_) h
          rw [e] at hs ⊢
          rw [impl_starts.l0, if_pos (by omega), if_pos (by omega), if_pos (by omega), if_pos hr, if_pos ht, if_pos (by omega), if_pos (by omega), w64 (x := x + 1) (by omega) (by omega), w64 (x := x + 1 + rd l (i : Int)) (by omega) (by omega), w64n i (by omega)]
        · have e : st r x = x := if_neg (fun z => ht z.2)
          have h := ih (i + 1) (by omega) (st r x + rd l (i : Int)) (out ++ [st r x]) bl (by simp [ho]) (by omega) (by omega) (by omega)
          rw [List.append_assoc] at h
          rw [if_neg (fun z => ht z.2), List.nil_append]
          refine Ev.step (fun k => ?_) h
          rw [e] at hs ⊢
          rw [impl_starts.l0, if_pos (by omega), if_pos (by omega), if_pos (by omega), if_pos hr, if_neg ht, if_pos (by omega), w64 (x := x + rd l (i : Int)) (by omega) (by omega), w64n i (by omega)]
      · have e : st r x = x := if_neg (fun z => hr z.1)
        have h := ih (i + 1) (by omega) (st r x + rd l (i : Int)) (out ++ [st r x]) bl (by simp [ho]) (by omega) (by omega) (by omega)
        rw [List.append_assoc] at h
        rw [if_neg (fun z => hr z.1), List.nil_append]
        refine Ev.step (fun k => ?_) h
        rw [e] at hs ⊢
        rw [impl_starts.l0, if_pos (by omega), if_pos (by omega), if_pos (by omega), if_neg hr, if_pos (by omega), w64 (x := x + rd l (i : Int)) (by omega) (by omega), w64n i (by omega)]
  have := loop l.length 0 (by omega) (f + 1) [] [] rfl (by simp) (by omega) (by omega)
  rw [List.drop_zero, List.nil_append, List.nil_append] at this
  refine Ev.congr (fun k => ?_) this
  rw [impl_starts.f, w64 (x := f + 1) (by omega) (by omega)]
  rfl
theorem specChapterStarts_ev (f : Int) (l : List Int) (r : Bool) (hl : l.length ≤ 35184372088832) : Ev (fun k => spec_ChapterStarts.f k f l r) (if isBk f l = true then (sFirst r l (f + 1), 0) else ([], 1)) := by
  unfold spec_ChapterStarts.f
  refine Ev.bind (specIsBook_ev f l r hl) ?_
  by_cases h : isBk f l = true
  · rw [if_pos h]; exact Ev_ite_t h (Ev.bind (specStarts_ev f l r h) (Ev.now _))
  · rw [if_neg h]; exact Ev_ite_f h (Ev.now _)
theorem implChapterStarts_ev (f : Int) (l : List Int) (r : Bool) : Ev (fun k => impl_ChapterStarts.f k f l r) (if isBk f l = true then (sFirst r l (f + 1), 0) else ([], 1)) := by
  unfold impl_ChapterStarts.f
  rw [implIsBook_eq]
  simp only [Option.bind_some]
  by_cases h : isBk f l = true
  · rw [if_pos h]; exact Ev_ite_t h (Ev.bind (implStarts_ev f l r h) (Ev.now _))
  · rw [if_neg h]; exact Ev_ite_f h (Ev.now _)
def chGo (p : Int) : List Int → List Int → Int → Int
  | s :: ss, n :: ns, i => if s ≤ p ∧ p ≤ s + n - 1 then i else chGo p ss ns (i + 1)
  | _, _, _ => -1
theorem specChapter_ev (f : Int) (l : List Int) (r : Bool) (p : Int) (hb : isBk f l = true) : Ev (fun k => spec_l02Chapter.f k f l r p) (chGo p (sFirst r l (f + 1)) l 0) := by
  obtain ⟨f0, f1, l0, l1, hx⟩ := isBk_iff.1 hb
  have hlen := sFirst_length r l (f + 1)
  have hbd : ∀ i : Nat, i < l.length → 0 ≤ rd (sFirst r l (f + 1)) (i : Int) ∧ rd (sFirst r l (f + 1)) (i : Int) ≤ 100000 := fun i hi => sFirst_bound r l (f + 1) hx (by omega) (by omega) _ (rd_mem (by omega))
  have key : ∀ ss : List Int, ss.length = l.length → (∀ i : Nat, i < l.length → 0 ≤ rd ss (i : Int) ∧ rd ss (i : Int) ≤ 100000) → Ev (fun k => spec_l02Chapter.l0 k p ss 0 f l r) (chGo p ss l 0) := by
   intro ss hlen hbd
   have loop : ∀ (d i : Nat), i + d = l.length → Ev (fun k => spec_l02Chapter.l0 k p ss (i : Int) f l r) (chGo p (ss.drop i) (l.drop i) (i : Int)) := by
     intro d
     induction d with
     | zero =>
       intro i hi
       rw [show l.drop i = [] from List.drop_of_length_le (by omega), show ss.drop i = [] from List.drop_of_length_le (by omega), chGo]
       · exact Ev.step (f := fun _ => some (-1)) (fun k => by rw [spec_l02Chapter.l0, if_neg (by omega)]) (Ev.now _)
       · intros; contradiction
     | succ d ih =>
       intro i hi
       have h1 := hbd i (by omega)
       have h2 := hx (rd l (i : Int)) (rd_mem (by omega))
       rw [drop_cons (xs := l) (i := i) (by omega), drop_cons (xs := ss) (i := i) (by omega), chGo]
       refine Ev.step (f := fun k => if decide (rd ss (i : Int) ≤ p ∧ p ≤ rd ss (i : Int) + rd l (i : Int) - 1) = true then some (i : Int) else spec_l02Chapter.l0 k p ss ((i + 1 : Nat) : Int) f l r) (fun k => by
         rw [spec_l02Chapter.l0, if_pos (by omega), if_pos (by omega), if_pos (by omega), l01In_eq, w64n i (by omega), w64 (x := rd ss (i : Int) + rd l (i : Int)) (by omega) (by omega), w64 (x := rd ss (i : Int) + rd l (i : Int) - 1) (by omega) (by omega)]
         rfl) ?_
       by_cases h : rd ss (i : Int) ≤ p ∧ p ≤ rd ss (i : Int) + rd l (i : Int) - 1
       · rw [if_pos h]; exact Ev_ite_t (decide_eq_true h) (Ev.now _)
       · rw [if_neg h]; exact Ev_ite_f (by rw [decide_eq_true_iff]; exact h) (ih (i + 1) (by omega))
   have := loop l.length 0 (by omega)
   rw [List.drop_zero, List.drop_zero] at this
   exact Ev.congr (fun k => rfl) this
  unfold spec_l02Chapter.f
  exact Ev.bind (specStarts_ev f l r hb) (key _ hlen hbd)
theorem chGo_low (r : Bool) (p : Int) : ∀ (l : List Int) (x i : Int), (∀ n ∈ l, 1 ≤ n ∧ n ≤ 200) → p < x → chGo p (sFirst r l x) l i = -1
  | [], x, i, _, _ => by rw [chGo]; intros; contradiction
  | n :: t, x, i, h, hp => by
    have h1 := h n (by simp)
    have h3 := st_ge r x
    rw [sFirst, chGo, if_neg (by omega)]
    exact chGo_low r p t (st r x + n) (i + 1) (fun m hm => h m (by simp [hm])) (by omega)
theorem sBlank_ge (r : Bool) : ∀ (l : List Int) (x : Int), (∀ n ∈ l, 1 ≤ n ∧ n ≤ 200) → ∀ q ∈ sBlank r l x, x ≤ q ∧ q < sEnd r l x
  | [], x, _, q, hq => by simp [sBlank] at hq
  | n :: t, x, h, q, hq => by
    have h1 := h n (by simp)
    have h3 := st_ge r x
    have h2 := sEnd_bound r t (st r x + n) (fun m hm => h m (by simp [hm]))
    rw [sBlank, List.mem_append] at hq
    rw [sEnd]
    rcases hq with hq | hq
    · split at hq
      · rw [List.mem_singleton] at hq; omega
      · simp at hq
    · have := sBlank_ge r t (st r x + n) (fun m hm => h m (by simp [hm])) q hq
      omega
theorem sBlank_sorted (r : Bool) : ∀ (l : List Int) (x : Int), (∀ n ∈ l, 1 ≤ n ∧ n ≤ 200) → (sBlank r l x).Pairwise (· < ·)
  | [], x, _ => by simp [sBlank]
  | n :: t, x, h => by
    have h1 := h n (by simp)
    have h3 := st_ge r x
    have ih := sBlank_sorted r t (st r x + n) (fun m hm => h m (by simp [hm]))
    rw [sBlank]
    split
    · rw [List.singleton_append, List.pairwise_cons]
      refine ⟨fun q hq => ?_, ih⟩
      have := sBlank_ge r t (st r x + n) (fun m hm => h m (by simp [hm])) q hq
      omega
    · rw [List.nil_append]; exact ih
theorem chGo_blank (r : Bool) (p : Int) : ∀ (l : List Int) (x i : Int), (∀ n ∈ l, 1 ≤ n ∧ n ≤ 200) → p ∈ sBlank r l x → chGo p (sFirst r l x) l i = -1
  | [], x, i, _, hp => by simp [sBlank] at hp
  | n :: t, x, i, h, hp => by
    have h1 := h n (by simp)
    have h3 := st_ge r x
    rw [sBlank, List.mem_append] at hp
    rw [sFirst, chGo]
    rcases hp with hp | hp
    · split at hp
      · rename_i hc
        rw [List.mem_singleton] at hp
        have e : st r x = x + 1 := if_pos hc
        rw [if_neg (by omega)]
        exact chGo_low r p t (st r x + n) (i + 1) (fun m hm => h m (by simp [hm])) (by omega)
      · simp at hp
    · have := sBlank_ge r t (st r x + n) (fun m hm => h m (by simp [hm])) p hp
      rw [if_neg (by omega)]
      exact chGo_blank r p t (st r x + n) (i + 1) (fun m hm => h m (by simp [hm])) hp
theorem chGo_in (r : Bool) (p : Int) : ∀ (l : List Int) (x i : Int), (∀ n ∈ l, 1 ≤ n ∧ n ≤ 200) → x ≤ p → p < sEnd r l x → p ∉ sBlank r l x → i ≤ chGo p (sFirst r l x) l i ∧ chGo p (sFirst r l x) l i < i + l.length
  | [], x, i, _, h0, h1, _ => by simp [sEnd] at h1; omega
  | n :: t, x, i, h, h0, hE, hp => by
    have h1 := h n (by simp)
    have h3 := st_ge r x
    rw [sBlank, List.mem_append] at hp
    rw [sEnd] at hE
    rw [sFirst, chGo, List.length_cons]
    by_cases hc : st r x ≤ p ∧ p ≤ st r x + n - 1
    · rw [if_pos hc]; omega
    · rw [if_neg hc]
      have hge : st r x + n ≤ p := by
        rcases Int.lt_or_le p (st r x) with hlt | hge
        · exfalso
          apply hp
          left
          by_cases hcc : r = true ∧ Int.tmod x 2 = 0
          · rw [if_pos hcc, List.mem_singleton]
            have e : st r x = x + 1 := if_pos hcc
            omega
          · have e : st r x = x := if_neg hcc
            omega
        · omega
      have := chGo_in r p t (st r x + n) (i + 1) (fun m hm => h m (by simp [hm])) hge hE (fun z => hp (.inr z))
      omega
theorem filter_next (p : Int) : ∀ (l : List Int), l.Pairwise (· < ·) → p ∈ l → l.filter (fun q => decide (p ≤ q)) = p :: l.filter (fun q => decide (p + 1 ≤ q))
  | [], _, h => by simp at h
  | a :: t, hs, h => by
    rw [List.pairwise_cons] at hs
    rw [List.mem_cons] at h
    rcases h with rfl | h
    · rw [List.filter_cons_of_pos (by simp), List.filter_cons_of_neg (by simp; omega)]
      congr 1
      apply List.filter_congr
      intro q hq
      have := hs.1 q hq
      rw [decide_eq_decide]; omega
    · have h2 := hs.1 p h
      rw [List.filter_cons_of_neg (by simp; omega), List.filter_cons_of_neg (by simp; omega)]
      exact filter_next p t hs.2 h
theorem specBlank_ev (f : Int) (l : List Int) (r : Bool) (hl : l.length ≤ 35184372088832) : Ev (fun k => spec_BlankPages.f k f l r) (if isBk f l = true then (sBlank r l (f + 1), 0) else ([], 1)) := by
  unfold spec_BlankPages.f
  refine Ev.bind (specIsBook_ev f l r hl) ?_
  by_cases hb : isBk f l = true
  · rw [if_pos hb]
    obtain ⟨f0, f1, l0, l1, hx⟩ := isBk_iff.1 hb
    have hE := sEnd_bound r l (f + 1) hx
    have hsort := sBlank_sorted r l (f + 1) hx
    have hge := sBlank_ge r l (f + 1) hx
    refine Ev_ite_t hb (Ev.bind (specStarts_ev f l r hb) ?_)
    have loop : ∀ (d : Nat) (p : Int), p + d = sEnd r l (f + 1) → f + 1 ≤ p → ∀ out : List Int, (out.length : Int) ≤ p → Ev (fun k => spec_BlankPages.l0 k (sEnd r l (f + 1)) out p f l r) (out ++ (sBlank r l (f + 1)).filter (fun q => decide (p ≤ q)), 0) := by
      intro d
      induction d with
      | zero =>
        intro p hp hpf out ho
        have e : (sBlank r l (f + 1)).filter (fun q => decide (p ≤ q)) = [] := by
          rw [List.filter_eq_nil_iff]
          intro q hq
          have := hge q hq
          simp; omega
        rw [e, List.append_nil]
        exact Ev.step (f := fun _ => some (out, 0)) (fun k => by rw [spec_BlankPages.l0, if_neg (by omega)]) (Ev.now _)
      | succ d ih =>
        intro p hp hpf out ho
        refine Ev.step (f := fun k => (spec_l02Chapter.f k f l r p).bind fun t => if t < 0 then (if out.length < 17592186044416 then spec_BlankPages.l0 k (sEnd r l (f + 1)) (out ++ [p]) (p + 1) f l r else none) else spec_BlankPages.l0 k (sEnd r l (f + 1)) out (p + 1) f l r) (fun k => by rw [spec_BlankPages.l0, if_pos (by omega), w64 (x := p + 1) (by omega) (by omega)]) ?_
        refine Ev.bind (specChapter_ev f l r p hb) ?_
        by_cases hm : p ∈ sBlank r l (f + 1)
        · rw [chGo_blank r p l (f + 1) 0 hx hm, filter_next p _ hsort hm]
          have := ih (p + 1) (by omega) (by omega) (out ++ [p]) (by simp; omega)
          rw [List.append_assoc] at this
          exact Ev_ite_t (by omega) (Ev_ite_t (by omega) this)
        · have hc := chGo_in r p l (f + 1) 0 hx hpf (by omega) hm
          have e : (sBlank r l (f + 1)).filter (fun q => decide (p ≤ q)) = (sBlank r l (f + 1)).filter (fun q => decide (p + 1 ≤ q)) := by
            apply List.filter_congr
            intro q hq
            have : q ≠ p := fun z => hm (z ▸ hq)
            rw [decide_eq_decide]; omega
          rw [e]
          exact Ev_ite_f (by omega) (ih (p + 1) (by omega) (by omega) out (by omega))
    have := loop (sEnd r l (f + 1) - (f + 1)).toNat (f + 1) (by omega) (by omega) [] (by simp; omega)
    have e : (sBlank r l (f + 1)).filter (fun q => decide (f + 1 ≤ q)) = sBlank r l (f + 1) := by
      rw [List.filter_eq_self]
      intro q hq
      have := hge q hq
      simp; omega
    rw [List.nil_append, e] at this
    rw [w64 (x := f + 1) (by omega) (by omega)]
    exact this
  · rw [if_neg hb]; exact Ev_ite_f hb (Ev.now _)
theorem implBlank_ev (f : Int) (l : List Int) (r : Bool) : Ev (fun k => impl_BlankPages.f k f l r) (if isBk f l = true then (sBlank r l (f + 1), 0) else ([], 1)) := by
  unfold impl_BlankPages.f
  rw [implIsBook_eq]
  simp only [Option.bind_some]
  by_cases h : isBk f l = true
  · rw [if_pos h]; exact Ev_ite_t h (Ev.bind (implStarts_ev f l r h) (Ev.now _))
  · rw [if_neg h]; exact Ev_ite_f h (Ev.now _)
theorem implPageCount_ev (f : Int) (l : List Int) (r : Bool) : Ev (fun k => impl_PageCount.f k f l r) (if isBk f l = true then (sEnd r l (f + 1) - 1, 0) else (0, 1)) := by
  unfold impl_PageCount.f
  rw [implIsBook_eq]
  simp only [Option.bind_some]
  by_cases h : isBk f l = true
  · rw [if_pos h]
    exact Ev_ite_t h (Ev.bind (implStarts_ev f l r h) (Ev.now _))
  · rw [if_neg h]
    exact Ev_ite_f h (Ev.now _)
def cdOf (f : Int) (l : List Int) (r : Bool) (p : Int) : Int := if isBk f l = true then (if 1 ≤ p ∧ p ≤ sEnd r l (f + 1) - 1 then 0 else 2) else 1
theorem specCode_ev (f : Int) (l : List Int) (r : Bool) (p : Int) (hl : l.length ≤ 35184372088832) : Ev (fun k => spec_l02Code.f k f l r p) (cdOf f l r p) := by
  unfold spec_l02Code.f cdOf
  refine Ev.bind (specIsBook_ev f l r hl) ?_
  by_cases hb : isBk f l = true
  · obtain ⟨f0, f1, l0, l1, hx⟩ := isBk_iff.1 hb
    have hE := sEnd_bound r l (f + 1) hx
    rw [if_pos hb]
    refine Ev_ite_t hb (Ev.bind (specStarts_ev f l r hb) ?_)
    simp only [l01In_eq, Option.bind_some, decide_eq_true_eq]
    rw [w64 (x := sEnd r l (f + 1) - 1) (by omega) (by omega)]
    by_cases h : 1 ≤ p ∧ p ≤ sEnd r l (f + 1) - 1
    · simp only [if_pos h]; exact Ev.now _
    · simp only [if_neg h]; exact Ev.now _
  · rw [if_neg hb]; exact Ev_ite_f hb (Ev.now _)
theorem implCode_ev (f : Int) (l : List Int) (r : Bool) (p : Int) : Ev (fun k => impl_checkPage.f k f l r p) (cdOf f l r p) := by
  unfold impl_checkPage.f cdOf
  refine Ev.bind (implPageCount_ev f l r) ?_
  by_cases hb : isBk f l = true
  · rw [if_pos hb, if_pos hb]
    refine Ev_ite_t rfl ?_
    simp only [inRange_eq, Option.bind_some, decide_eq_true_eq]
    by_cases h : 1 ≤ p ∧ p ≤ sEnd r l (f + 1) - 1
    · simp only [if_pos h]; exact Ev.now _
    · simp only [if_neg h]; exact Ev.now _
  · rw [if_neg hb, if_neg hb]
    exact Ev_ite_f (by simp) (Ev.now _)
def chOf (f : Int) (l : List Int) (r : Bool) (p : Int) : Int × Int := if cdOf f l r p = 0 then (if chGo p (sFirst r l (f + 1)) l 0 < 0 then (0, 4) else (chGo p (sFirst r l (f + 1)) l 0, 0)) else (0, cdOf f l r p)
theorem cdOf_book {f : Int} {l : List Int} {r : Bool} {p : Int} (h : cdOf f l r p = 0) : isBk f l = true ∧ 1 ≤ p ∧ p ≤ sEnd r l (f + 1) - 1 := by
  unfold cdOf at h
  by_cases hb : isBk f l = true
  · rw [if_pos hb] at h
    by_cases h2 : 1 ≤ p ∧ p ≤ sEnd r l (f + 1) - 1
    · exact ⟨hb, h2.1, h2.2⟩
    · rw [if_neg h2] at h; omega
  · rw [if_neg hb] at h; omega
theorem specChapterOf_ev (f : Int) (l : List Int) (r : Bool) (p : Int) (hl : l.length ≤ 35184372088832) : Ev (fun k => spec_ChapterOf.f k f l r p) (chOf f l r p) := by
  unfold spec_ChapterOf.f chOf
  refine Ev.bind (specCode_ev f l r p hl) ?_
  by_cases h : cdOf f l r p = 0
  · rw [if_pos h]
    refine Ev_ite_t h (Ev.bind (specChapter_ev f l r p (cdOf_book h).1) ?_)
    by_cases h2 : chGo p (sFirst r l (f + 1)) l 0 < 0
    · simp only [if_pos h2]; exact Ev.now _
    · simp only [if_neg h2]; exact Ev.now _
  · rw [if_neg h]; exact Ev_ite_f h (Ev.now _)
theorem implChapterOf_ev (f : Int) (l : List Int) (r : Bool) (p : Int) : Ev (fun k => impl_ChapterOf.f k f l r p) (chOf f l r p) := by
  unfold impl_ChapterOf.f chOf
  refine Ev.bind (implCode_ev f l r p) ?_
  by_cases h : cdOf f l r p = 0
  · rw [if_pos h]
    have hb := (cdOf_book h).1
    obtain ⟨f0, f1, l0, l1, hx⟩ := isBk_iff.1 hb
    have hlen := sFirst_length r l (f + 1)
    have hbd : ∀ i : Nat, i < l.length → 0 ≤ rd (sFirst r l (f + 1)) (i : Int) ∧ rd (sFirst r l (f + 1)) (i : Int) ≤ 100000 := fun i hi => sFirst_bound r l (f + 1) hx (by omega) (by omega) _ (rd_mem (by omega))
    have key : ∀ ss : List Int, ss.length = l.length → (∀ i : Nat, i < l.length → 0 ≤ rd ss (i : Int) ∧ rd ss (i : Int) ≤ 100000) → Ev (fun k => impl_ChapterOf.l0 k p ss (ss.length : Int) 0 f l r) (if chGo p ss l 0 < 0 then (0, 4) else (chGo p ss l 0, 0)) := by
     intro ss hlen hbd
     have loop : ∀ (d i : Nat), i + d = l.length → Ev (fun k => impl_ChapterOf.l0 k p ss (ss.length : Int) (i : Int) f l r) (if chGo p (ss.drop i) (l.drop i) (i : Int) < 0 then (0, 4) else (chGo p (ss.drop i) (l.drop i) (i : Int), 0)) := by
       intro d
       induction d with
       | zero =>
         intro i hi
         have e : chGo p (ss.drop i) (l.drop i) (i : Int) = -1 := by
           rw [show l.drop i = [] from List.drop_of_length_le (by omega), show ss.drop i = [] from List.drop_of_length_le (by omega), chGo]
           intros; contradiction
         rw [e, if_pos (by omega)]
         exact Ev.step (f := fun _ => some (0, 4)) (fun k => by rw [impl_ChapterOf.l0, if_neg (by omega)]) (Ev.now _)
       | succ d ih =>
         intro i hi
         have h1 := hbd i (by omega)
         have h2 := hx (rd l (i : Int)) (rd_mem (by omega))
         rw [drop_cons (xs := l) (i := i) (by omega), drop_cons (xs := ss) (i := i) (by omega), chGo]
         refine Ev.step (f := fun k => if decide (rd ss (i : Int) ≤ p ∧ p ≤ rd ss (i : Int) + rd l (i : Int) - 1) = true then some ((i : Int), 0) else impl_ChapterOf.l0 k p ss (ss.length : Int) ((i + 1 : Nat) : Int) f l r) (fun k => by
           rw [impl_ChapterOf.l0, if_pos (by omega), if_pos (by omega), if_pos (by omega), if_pos (by omega), inRange_eq, w64n i (by omega), w64 (x := rd ss (i : Int) + rd l (i : Int)) (by omega) (by omega), w64 (x := rd ss (i : Int) + rd l (i : Int) - 1) (by omega) (by omega)]
           rfl) ?_
         by_cases hc : rd ss (i : Int) ≤ p ∧ p ≤ rd ss (i : Int) + rd l (i : Int) - 1
         · rw [if_pos hc, if_neg (by omega)]; exact Ev_ite_t (decide_eq_true hc) (Ev.now _)
         · rw [if_neg hc]; exact Ev_ite_f (by rw [decide_eq_true_iff]; exact hc) (ih (i + 1) (by omega))
     have := loop l.length 0 (by omega)
     rw [List.drop_zero, List.drop_zero] at this
     exact Ev.congr (fun k => rfl) this
    exact Ev_ite_t h (Ev.bind (implStarts_ev f l r hb) (key _ hlen hbd))
  · rw [if_neg h]; exact Ev_ite_f h (Ev.now _)
theorem specPageCount_ev (f : Int) (l : List Int) (r : Bool) (hl : l.length ≤ 35184372088832) : Ev (fun k => spec_PageCount.f k f l r) (if isBk f l = true then (sEnd r l (f + 1) - 1, 0) else (0, 1)) := by
  unfold spec_PageCount.f
  refine Ev.bind (specIsBook_ev f l r hl) ?_
  by_cases h : isBk f l = true
  · rw [if_pos h]
    obtain ⟨f0, f1, l0, l1, hx⟩ := isBk_iff.1 h
    have hb := sEnd_bound r l (f + 1) hx
    refine Ev_ite_t h (Ev.bind (specStarts_ev f l r h) ?_)
    simp only
    rw [w64 (x := sEnd r l (f + 1) - 1) (by omega) (by omega)]
    exact Ev.now _
  · rw [if_neg h]
    exact Ev_ite_f h (Ev.now _)
def Src (c : List Int) (a s : Int) : Prop := c.length ≤ 4096 ∧ (∀ x ∈ c, 0 ≤ x ∧ x ≤ 255) ∧ 0 ≤ a ∧ a ≤ c.length ∧ 0 ≤ s ∧ s < 2147483647
theorem tmod_range {x m : Int} (h : 0 ≤ x) (hm : 0 < m) : 0 ≤ Int.tmod x m ∧ Int.tmod x m < m := ⟨Int.tmod_nonneg _ h, Int.tmod_lt_of_pos _ hm⟩
theorem rd_byte {c : List Int} (hc : ∀ x ∈ c, 0 ≤ x ∧ x ≤ 255) (i : Int) : 0 ≤ rd c i ∧ rd c i ≤ 255 := by
  unfold rd
  by_cases h : i.toNat < c.length
  · simp only [List.getD_eq_getElem?_getD, List.getElem?_eq_getElem h, Option.getD_some]
    exact hc _ (List.getElem_mem h)
  · simp only [List.getD_eq_getElem?_getD, List.getElem?_eq_none (Nat.le_of_not_lt h), Option.getD_none]
    omega
theorem next_ok {c : List Int} {a s : Int} (h : Src c a s) (n : Int) (hn : n ≤ 9000000000000000000) :
    ∃ r a' s', spec_l01Next.f c a s n = some (r, a', s') ∧ Src c a' s' ∧ 0 ≤ r ∧ (1 ≤ n → r < n) := by
  obtain ⟨h1, h2, h3, h4, h5, h6⟩ := h
  unfold spec_l01Next.f
  by_cases hn1 : n ≤ 1
  · rw [if_pos hn1]
    exact ⟨0, a, s, rfl, ⟨h1, h2, h3, h4, h5, h6⟩, by omega, by omega⟩
  · rw [if_neg hn1]
    have e1 : wrap64 (wrap64 (s * 48271) + 61) = s * 48271 + 61 := by rw [w64 (x := s * 48271) (by omega) (by omega), w64 (by omega) (by omega)]
    rw [e1]
    have m1 := tmod_range (x := s * 48271 + 61) (m := 2147483647) (by omega) (by omega)
    generalize Int.tmod (s * 48271 + 61) 2147483647 = s1 at *
    have d1 : 0 ≤ Int.tdiv s1 31 ∧ Int.tdiv s1 31 ≤ 2147483647 := by
      rw [Int.tdiv_eq_ediv_of_nonneg m1.1]; omega
    rw [w64 (x := Int.tdiv s1 31) (by omega) (by omega)]
    generalize Int.tdiv s1 31 = q at *
    by_cases ha : a < (c.length : Int)
    · have e2 : wrap64 (a + 1) = a + 1 := w64 (by omega) (by omega)
      have e3 : wrap64 (a + 1 - 1) = a := by rw [w64 (by omega) (by omega)]; omega
      have b1 := rd_byte h2 a
      rw [if_pos ha, if_pos h3, e2, e3, w64 (x := rd c a) (by omega) (by omega), w64 (x := q + rd c a) (by omega) (by omega)]
      have r1 := tmod_range (x := rd c a) (m := n) b1.1 (by omega)
      have r2 := tmod_range (x := q + rd c a) (m := n) (by omega) (by omega)
      have hs : Src c (a + 1) s1 := ⟨h1, h2, by omega, by omega, m1.1, m1.2⟩
      by_cases hb : n ≤ 256
      · rw [if_pos hb]
        by_cases hc : Int.tmod (a + 1) 2 = 0
        · rw [if_pos hc, if_pos h3, if_pos ha, if_neg (by omega)]
          exact ⟨_, _, _, rfl, hs, r1.1, fun _ => r1.2⟩
        · rw [if_neg hc, if_neg (by omega)]
          exact ⟨_, _, _, rfl, hs, r2.1, fun _ => r2.2⟩
      · rw [if_neg hb, if_neg (by omega)]
        exact ⟨_, _, _, rfl, hs, r2.1, fun _ => r2.2⟩
    · rw [if_neg ha, if_neg (by omega)]
      have r1 := tmod_range (x := q) (m := n) (by omega) (by omega)
      exact ⟨_, _, _, rfl, ⟨h1, h2, h3, h4, m1.1, m1.2⟩, r1.1, fun _ => r1.2⟩
theorem from_ok (c : List Int) (hc : c.length ≤ 4096) (hb : ∀ x ∈ c, 0 ≤ x ∧ x ≤ 255) : ∃ a s, Ev (fun k => spec_l01From.f k c) (c, a, s) ∧ Src c a s := by
  have loop : ∀ (d i : Nat), i + d = c.length → ∀ s : Int, 0 ≤ s → s < 2147483647 → ∃ s', 0 ≤ s' ∧ s' < 2147483647 ∧ Ev (fun k => spec_l01From.l0 k c (i : Int) c 0 s) (c, 0, s') := by
    intro d
    induction d with
    | zero =>
      intro i hi s h0 h1
      exact ⟨s, h0, h1, Ev.step (f := fun _ => some (c, 0, s)) (fun k => by rw [spec_l01From.l0, if_neg (by omega)]) (Ev.now _)⟩
    | succ d ih =>
      intro i hi s h0 h1
      by_cases h64 : i < 64
      · have b1 := rd_byte hb (i : Int)
        have e1 : wrap64 (wrap64 (s * 71) + wrap64 (rd c (i : Int))) = s * 71 + rd c (i : Int) := by
          rw [w64 (x := s * 71) (by omega) (by omega), w64 (x := rd c (i : Int)) (by omega) (by omega), w64 (by omega) (by omega)]
        have m1 := tmod_range (x := s * 71 + rd c (i : Int)) (m := 2147483647) (by omega) (by omega)
        obtain ⟨s', g0, g1, g2⟩ := ih (i + 1) (by omega) (Int.tmod (s * 71 + rd c (i : Int)) 2147483647) m1.1 m1.2
        refine ⟨s', g0, g1, Ev.step (fun k => ?_) g2⟩
        rw [spec_l01From.l0, if_pos (by omega), if_pos (by omega), if_pos (by omega), w64n i (by omega), e1]
      · exact ⟨s, h0, h1, Ev.step (f := fun _ => some (c, 0, s)) (fun k => by rw [spec_l01From.l0, if_pos (by omega), if_neg (by omega)]) (Ev.now _)⟩
  obtain ⟨s', g0, g1, g2⟩ := loop c.length 0 (by omega) 88007 (by omega) (by omega)
  exact ⟨0, s', Ev.congr (fun k => rfl) g2, hc, hb, by omega, by omega, g0, g1⟩
theorem pick_ok {c : List Int} {a s : Int} (h : Src c a s) (l : List Int) (h0 : 0 < l.length) (h1 : l.length ≤ 1000) :
    ∃ r a' s', spec_l01Pick.f c a s l = some (r, a', s') ∧ Src c a' s' ∧ r ∈ l := by
  obtain ⟨r, a', s', e, hs, h2, h3⟩ := next_ok h (l.length : Int) (by omega)
  have h4 := h3 (by omega)
  unfold spec_l01Pick.f
  rw [e]
  simp only [Option.bind_some]
  rw [if_pos h2, if_pos h4]
  refine ⟨_, _, _, rfl, hs, ?_⟩
  obtain ⟨m, rfl⟩ := Int.eq_ofNat_of_zero_le h2
  exact rd_mem (by omega)
def BkOk (f : Int) (l : List Int) : Prop := -1 ≤ f ∧ f ≤ 41 ∧ l.length ≤ 21 ∧ ∀ n ∈ l, 0 ≤ n ∧ n ≤ 201
theorem mem_set_ok {P : Int → Prop} {l : List Int} {i : Nat} {v : Int} (h : ∀ n ∈ l, P n) (hv : P v) : ∀ n ∈ l.set i v, P n := by
  intro n hn
  rcases List.mem_or_eq_of_mem_set hn with hn | rfl
  · exact h n hn
  · exact hv
theorem drawBook_ok {c : List Int} {a s : Int} (h0 : Src c a s) : ∃ f l r a' s', Ev (fun k => spec_l02Draw.f k c a s) (f, l, r, a', s') ∧ Src c a' s' ∧ BkOk f l := by
  obtain ⟨r1, a1, s1, e1, h1, p1, q1⟩ := next_ok h0 12 (by omega)
  obtain ⟨r2, a2, s2, e2, h2, p2, q2⟩ := next_ok h1 2 (by omega)
  obtain ⟨r3, a3, s3, e3, h3, p3, q3⟩ := next_ok h2 6 (by omega)
  have q1' := q1 (by omega)
  have q3' := q3 (by omega)
  have fill : ∀ (d i : Nat), ∀ (l : List Int) (r : Bool) (a s : Int), i + d = l.length → l.length ≤ 21 → (∀ n ∈ l, 0 ≤ n ∧ n ≤ 201) → ∃ l', Ev (fun k => spec_l02Draw.l1 k (i : Int) c a s r1 l r) (r1, l', r, a, s) ∧ l'.length ≤ 21 ∧ ∀ n ∈ l', 0 ≤ n ∧ n ≤ 201 := by
    intro d
    induction d with
    | zero =>
      intro i l r a s hi hl hx
      exact ⟨l, Ev.step (f := fun _ => some (r1, l, r, a, s)) (fun k => by rw [spec_l02Draw.l1, if_neg (by omega)]) (Ev.now _), hl, hx⟩
    | succ d ih =>
      intro i l r a s hi hl hx
      obtain ⟨l', g1, g2, g3⟩ := ih (i + 1) (l.set i 2) r a s (by rw [List.length_set]; omega) (by rw [List.length_set]; omega) (mem_set_ok hx (by omega))
      exact ⟨l', Ev.step (fun k => by rw [spec_l02Draw.l1, if_pos (by omega), if_pos (by omega), toNat_cast, w64n i (by omega)]) g1, g2, g3⟩
  have loop : ∀ (d : Nat) (l : List Int) (r : Bool) (a s : Int), Src c a s → 1 ≤ l.length + d → l.length + d ≤ 6 → (∀ n ∈ l, 0 ≤ n ∧ n ≤ 201) → ∃ f' l' r' a' s', Ev (fun k => spec_l02Draw.l0 k (d : Int) c a s r1 l r) (f', l', r', a', s') ∧ Src c a' s' ∧ BkOk f' l' := by
    intro d
    induction d with
    | zero =>
      intro l r a s hs hl1 hl6 hx
      obtain ⟨t1, b1, u1, k1, g1, _, _⟩ := next_ok hs 40 (by omega)
      by_cases c0 : t1 = 0
      · obtain ⟨t2, b2, u2, k2, g2, m2⟩ := pick_ok g1 [(-1), 40, 41] (by simp) (by simp)
        have hm : -1 ≤ t2 ∧ t2 ≤ 41 := by simp at m2; omega
        exact ⟨t2, l, r, b2, u2, Ev.step (f := fun _ => some (t2, l, r, b2, u2)) (fun k => by rw [spec_l02Draw.l0, if_neg (by omega), k1]; simp only [Option.bind_some]; rw [if_pos c0, k2]; rfl) (Ev.now _), g2, hm.1, hm.2, by omega, hx⟩
      by_cases c1 : t1 = 1
      · obtain ⟨t2, b2, u2, k2, g2, m2⟩ := pick_ok g1 [0, 200, 201] (by simp) (by simp)
        have hm : 0 ≤ t2 ∧ t2 ≤ 201 := by simp at m2; omega
        exact ⟨r1, l.set 0 t2, r, b2, u2, Ev.step (f := fun _ => some (r1, l.set 0 t2, r, b2, u2)) (fun k => by rw [spec_l02Draw.l0, if_neg (by omega), k1]; simp only [Option.bind_some]; rw [if_neg c0, if_pos c1, k2]; simp only [Option.bind_some]; rw [if_pos (by omega)]; rfl) (Ev.now _), g2, by omega, by omega, by rw [List.length_set]; omega, mem_set_ok hx hm⟩
      by_cases c2 : t1 = 2
      · obtain ⟨t2, b2, u2, k2, g2, m2⟩ := pick_ok g1 [0, 20, 21] (by simp) (by simp)
        have hm : 0 ≤ t2 ∧ t2 ≤ 21 := by simp at m2; omega
        obtain ⟨l', x1, x2, x3⟩ := fill t2.toNat 0 (List.replicate t2.toNat 0) r b2 u2 (by simp) (by simp; omega) (fun n hn => by rw [List.mem_replicate] at hn; omega)
        exact ⟨r1, l', r, b2, u2, Ev.step (f := fun k => spec_l02Draw.l1 k ((0 : Nat) : Int) c b2 u2 r1 (List.replicate t2.toNat 0) r) (fun k => by rw [spec_l02Draw.l0, if_neg (by omega), k1]; simp only [Option.bind_some]; rw [if_neg c0, if_neg c1, if_pos c2, k2]; simp only [Option.bind_some]; rw [if_pos hm.1, if_pos (by omega)]; rfl) x1, g2, by omega, by omega, x2, x3⟩
      · exact ⟨r1, l, r, b1, u1, Ev.step (f := fun _ => some (r1, l, r, b1, u1)) (fun k => by rw [spec_l02Draw.l0, if_neg (by omega), k1]; simp only [Option.bind_some]; rw [if_neg c0, if_neg c1, if_neg c2]) (Ev.now _), g1, by omega, by omega, by omega, hx⟩
    | succ d ih =>
      intro l r a s hs hl1 hl6 hx
      obtain ⟨t1, b1, u1, k1, g1, y0, y1⟩ := next_ok hs 20 (by omega)
      have y2 := y1 (by omega)
      obtain ⟨f', l', r', a', s', z1, z2, z3⟩ := ih (l ++ [1 + t1]) r b1 u1 g1 (by rw [List.length_append, List.length_singleton]; omega) (by rw [List.length_append, List.length_singleton]; omega) (fun n hn => by
        rw [List.mem_append, List.mem_singleton] at hn
        rcases hn with hn | rfl
        · exact hx n hn
        · omega)
      refine ⟨f', l', r', a', s', Ev.step (fun k => ?_) z1, z2, z3⟩
      have ed : wrap64 (((d + 1 : Nat) : Int) - 1) = (d : Int) := by rw [w64 (by omega) (by omega)]; omega
      rw [spec_l02Draw.l0, if_pos (by omega), k1]
      simp only [Option.bind_some]
      rw [if_pos (by omega), ed, w64 (x := 1 + t1) (by omega) (by omega)]
  obtain ⟨m, hm⟩ := Int.eq_ofNat_of_zero_le (show 0 ≤ 1 + r3 by omega)
  obtain ⟨f', l', r', a', s', z1, z2, z3⟩ := loop m [] (r2 == 0) a3 s3 h3 (by simp; omega) (by simp; omega) (fun n hn => by simp at hn)
  refine ⟨f', l', r', a', s', Ev.congr (fun k => ?_) z1, z2, z3⟩
  unfold spec_l02Draw.f
  simp only [e1, e2, e3, Option.bind_some]
  rw [w64 (x := 1 + r3) (by omega) (by omega), hm]
theorem drawPage_ok {c : List Int} {a s : Int} (h0 : Src c a s) : ∃ f l r p a' s', Ev (fun k => spec_l02DrawPage.f k c a s) (f, l, r, p, a', s') ∧ Src c a' s' ∧ BkOk f l := by
  obtain ⟨f, l, r, a1, s1, hd, h1, hb⟩ := drawBook_ok h0
  have hst := specStarts_gen f l r hb.1 hb.2.1 hb.2.2.1 hb.2.2.2
  have hE := sEnd_bound0 r l (f + 1) hb.2.2.2
  have hl := hb.2.2.1
  have hf := hb.1
  have hf2 := hb.2.1
  generalize sEnd r l (f + 1) = E at *
  obtain ⟨r2, a2, s2, e2, h2, _, _⟩ := next_ok h1 16 (by omega)
  unfold spec_l02DrawPage.f
  by_cases h : r2 = 0
  · obtain ⟨r3, a3, s3, e3, h3, _⟩ := pick_ok h2 [0, (-1), wrap64 (E - 1), E] (by simp) (by simp)
    refine ⟨f, l, r, r3, a3, s3, Ev.bind hd (Ev.bind hst ?_), h3, hb⟩
    simp only [e2, Option.bind_some, if_pos h, e3]
    exact Ev.now _
  · obtain ⟨r3, a3, s3, e3, h3, _⟩ := next_ok h2 (wrap64 (E - 1)) (by rw [w64 (by omega) (by omega)]; omega)
    refine ⟨f, l, r, wrap64 (1 + r3), a3, s3, Ev.bind hd (Ev.bind hst ?_), h3, hb⟩
    simp only [e2, Option.bind_some, if_neg h, e3]
    exact Ev.now _
theorem likeInts_ev (l : List Int) (hl : l.length ≤ 35184372088832) : Ev (fun k => laws_likeInts.f k l l) true := by
  have loop : ∀ (d i : Nat), i + d = l.length → Ev (fun k => laws_likeInts.l0 k l l (i : Int)) true := by
    intro d
    induction d with
    | zero =>
      intro i hi
      refine Ev.step (f := fun _ => some true) (fun k => by rw [laws_likeInts.l0, if_neg (by omega)]) (Ev.now _)
    | succ d ih =>
      intro i hi
      refine Ev.step (f := fun k => laws_likeInts.l0 k l l ((i + 1 : Nat) : Int)) (fun k => by rw [laws_likeInts.l0, if_pos (by omega), if_pos (by omega), if_pos (by omega), if_pos rfl, w64n i (by omega)]) ?_
      exact ih (i + 1) (by omega)
  refine Ev.congr (f := fun k => laws_likeInts.l0 k l l ((0 : Nat) : Int)) (fun k => ?_) (loop l.length 0 (by omega))
  simp only [laws_likeInts.f, if_true]
  rfl
theorem sum_ev (l : List Int) (hl : l.length ≤ 35184372088832) : Ev (fun k => laws_sum.f k l) (wrap64 l.sum) := by
  have loop : ∀ (d i : Nat), i + d = l.length → ∀ s : Int, Ev (fun k => laws_sum.l0 k l (wrap64 s) (i : Int)) (wrap64 (s + (l.drop i).sum)) := by
    intro d
    induction d with
    | zero =>
      intro i hi s
      rw [List.drop_of_length_le (by omega), List.sum_nil, Int.add_zero]
      exact Ev.step (f := fun _ => some (wrap64 s)) (fun k => by rw [laws_sum.l0, if_neg (by omega)]) (Ev.now _)
    | succ d ih =>
      intro i hi s
      rw [drop_cons (by omega), List.sum_cons, ← Int.add_assoc]
      refine Ev.step (fun k => ?_) (ih (i + 1) (by omega) (s + rd l (i : Int)))
      rw [laws_sum.l0, if_pos (by omega), if_pos (by omega), w64n i (by omega), wrap_add_wrap]
  have := loop l.length 0 (by omega) 0
  rw [List.drop_zero, Int.zero_add, wz] at this
  exact Ev.congr (fun k => rfl) this
theorem chGo_spec (p : Int) : ∀ (ss ns : List Int) (i : Int), 0 ≤ i → ss.length = ns.length → 0 ≤ chGo p ss ns i → ∃ m : Nat, m < ns.length ∧ chGo p ss ns i = i + m ∧ ss.getD m 0 ≤ p ∧ p ≤ ss.getD m 0 + ns.getD m 0 - 1
  | [], ns, i, h0, hl, h => by rw [chGo] at h; omega; intros; contradiction
  | s :: ss, [], i, h0, hl, h => by simp at hl
  | s :: ss, n :: ns, i, h0, hl, h => by
    rw [chGo] at h ⊢
    by_cases hc : s ≤ p ∧ p ≤ s + n - 1
    · rw [if_pos hc]
      exact ⟨0, by simp, by omega, by simpa using hc.1, by simpa using hc.2⟩
    · rw [if_neg hc] at h ⊢
      obtain ⟨m, h1, h2, h3, h4⟩ := chGo_spec p ss ns (i + 1) (by omega) (by simpa using hl) h
      exact ⟨m + 1, by simp; omega, by omega, by simpa using h3, by simpa using h4⟩
theorem sFirst_odd : ∀ (l : List Int) (x : Int), (∀ n ∈ l, 1 ≤ n ∧ n ≤ 200) → 0 ≤ x → ∀ s ∈ sFirst true l x, Int.tmod s 2 ≠ 0
  | [], x, _, _, s, hs => by simp [sFirst] at hs
  | n :: t, x, h, h0, s, hs => by
    have h1 := h n (by simp)
    have h3 := st_ge true x
    rw [sFirst, List.mem_cons] at hs
    rcases hs with rfl | hs
    · unfold st
      by_cases hc : true = true ∧ Int.tmod x 2 = 0
      · rw [if_pos hc]
        have h2 := hc.2
        rw [Int.tmod_eq_emod_of_nonneg (by omega)] at h2 ⊢
        omega
      · rw [if_neg hc]
        exact fun z => hc ⟨rfl, z⟩
    · exact sFirst_odd t (st true x + n) (fun m hm => h m (by simp [hm])) (by omega) s hs
theorem sEnd_sum (r : Bool) : ∀ (l : List Int) (x : Int), sEnd r l x = x + l.sum + (sBlank r l x).length
  | [], x => by simp [sEnd, sBlank]
  | n :: t, x => by
    rw [sEnd, sEnd_sum r t, sBlank, List.sum_cons, List.length_append]
    unfold st
    by_cases hc : r = true ∧ Int.tmod x 2 = 0
    · rw [if_pos hc, if_pos hc]; simp only [List.length_singleton]; omega
    · rw [if_neg hc, if_neg hc]; simp only [List.length_nil]; omega
theorem sBlank_plain : ∀ (l : List Int) (x : Int), sBlank false l x = []
  | [], x => rfl
  | n :: t, x => by rw [sBlank, if_neg (by simp), sBlank_plain t]; rfl
theorem drawStarts_ok (c : List Int) (hc : c.length ≤ 4096) (hb : ∀ x ∈ c, 0 ≤ x ∧ x ≤ 255) : ∃ f l r, Ev (fun k => spec_DrawChapterStarts.f k c) (f, l, r) ∧ BkOk f l := by
  obtain ⟨a, s, hf, h0⟩ := from_ok c hc hb
  obtain ⟨f, l, r, a', s', h1, h2, h3⟩ := drawBook_ok h0
  exact ⟨f, l, r, by unfold spec_DrawChapterStarts.f; exact Ev.bind hf (Ev.bind h1 (Ev.now _)), h3⟩
theorem drawChOf_ok (c : List Int) (hc : c.length ≤ 4096) (hb : ∀ x ∈ c, 0 ≤ x ∧ x ≤ 255) : ∃ f l r p, Ev (fun k => spec_DrawChapterOf.f k c) (f, l, r, p) ∧ BkOk f l := by
  obtain ⟨a, s, hf, h0⟩ := from_ok c hc hb
  obtain ⟨f, l, r, p, a', s', h1, h2, h3⟩ := drawPage_ok h0
  exact ⟨f, l, r, p, by unfold spec_DrawChapterOf.f; exact Ev.bind hf (Ev.bind h1 (Ev.now _)), h3⟩
theorem FnChapters : laws_FnChapters.Pure := by
  intro c hc1 hc2 hw
  apply Ev.rounds
  unfold laws_FnChapters.f laws_big.f
  simp only [Option.bind_some, decide_eq_true_eq]
  by_cases hb : (c.length : Int) > 4096
  · exact Ev_ite_t hb (Ev.now _)
  · refine Ev_ite_f hb ?_
    have hcb := fun x hx => wf8 (hw x hx)
    obtain ⟨f, l, r, hd, hbk⟩ := drawStarts_ok c (by omega) hcb
    obtain ⟨f2, l2, r2, p, hd2, hbk2⟩ := drawChOf_ok c (by omega) hcb
    have hlen : l.length ≤ 21 := hbk.2.2.1
    have hlen2 : l2.length ≤ 21 := hbk2.2.2.1
    have hq1 : (if isBk f l = true then (sFirst r l (f + 1), (0 : Int)) else ([], 1)).1.length ≤ 21 := by
      split
      · simp only [sFirst_length]; omega
      · simp
    have hq2 : (if isBk f l = true then (sBlank r l (f + 1), (0 : Int)) else ([], 1)).1.length ≤ 21 := by
      have := sBlank_length r l (f + 1)
      split
      · simp only; omega
      · simp
    refine Ev.bind hd ?_
    refine Ev.bind (implChapterStarts_ev f l r) (Ev.bind (specChapterStarts_ev f l r (by omega)) ?_)
    refine Ev.bind (implBlank_ev f l r) (Ev.bind (specBlank_ev f l r (by omega)) ?_)
    refine Ev.bind (implPageCount_ev f l r) (Ev.bind (specPageCount_ev f l r (by omega)) ?_)
    refine Ev.bind hd2 (Ev.bind (implChapterOf_ev f2 l2 r2 p) (Ev.bind (specChapterOf_ev f2 l2 r2 p (by omega)) ?_))
    refine Ev_ite_t rfl (Ev.bind (likeInts_ev _ (by omega)) (Ev_ite_t rfl (Ev_ite_t rfl (Ev.bind (likeInts_ev _ (by omega)) (Ev_ite_t rfl (Ev_ite_t rfl (Ev_ite_t rfl (Ev_ite_t rfl (Ev_ite_t rfl ?_)))))))))
    simp only [implIsBook_eq, Option.bind_some]
    refine Ev.bind (specIsBook_ev f l r (by omega)) ?_
    refine Ev.step (fun k => by rw [laws_FnChapters.j0, if_neg (by simp)]) ?_
    have hj1 : Ev (fun k => laws_FnChapters.j1 k (if isBk f l = true then (sFirst r l (f + 1), (0 : Int)) else ([], 1)).1 (if isBk f l = true then (sFirst r l (f + 1), (0 : Int)) else ([], 1)).2 (if isBk f l = true then (sBlank r l (f + 1), (0 : Int)) else ([], 1)).1 (if isBk f l = true then (sEnd r l (f + 1) - 1, (0 : Int)) else (0, 1)).1 f l r) true := by
      by_cases hv : isBk f l = true
      · simp only [if_pos hv]
        obtain ⟨f0, f1, l0, l1, hx⟩ := isBk_iff.1 hv
        refine Ev.step (fun k => by rw [laws_FnChapters.j1, if_pos rfl]) ?_
        have hE := sEnd_bound r l (f + 1) hx
        have hS := sEnd_sum r l (f + 1)
        have hBl := sBlank_length r l (f + 1)
        have hfl := sFirst_length r l (f + 1)
        have loop : ∀ (d i : Nat), i + d = l.length → Ev (fun k => laws_FnChapters.l0 k (sFirst r l (f + 1)) (sBlank r l (f + 1)) (sEnd r l (f + 1) - 1) (i : Int) f l r) true := by
          intro d
          induction d with
          | zero =>
            intro i hi
            refine Ev.step (fun k => by rw [laws_FnChapters.l0, if_neg (by omega)]) ?_
            refine Ev.bind (sum_ev l (by omega)) ?_
            rw [w64 (x := l.sum) (by omega) (by omega), w64 (x := f + l.sum) (by omega) (by omega), w64 (x := f + l.sum + ((sBlank r l (f + 1)).length : Int)) (by omega) (by omega)]
            refine Ev_ite_t (by omega) ?_
            by_cases hr : r = true
            · exact Ev_ite_t hr (Ev.now _)
            · refine Ev_ite_f hr ?_
              have hrf : r = false := by simpa using hr
              rw [hrf, sBlank_plain]
              exact Ev.now _
          | succ d ih =>
            intro i hi
            by_cases hr : r = true
            · refine Ev.step (fun k => by rw [laws_FnChapters.l0, if_pos (by omega), if_pos hr, if_pos (by omega), w64n i (by omega)]) ?_
              refine Ev_ite_f ?_ (ih (i + 1) (by omega))
              have hm := rd_mem (xs := sFirst r l (f + 1)) (i := i) (by omega)
              subst hr
              exact sFirst_odd l (f + 1) hx (by omega) _ hm
            · exact Ev.step (fun k => by rw [laws_FnChapters.l0, if_pos (by omega), if_neg hr, w64n i (by omega)]) (ih (i + 1) (by omega))
        exact Ev.congr (fun k => rfl) (loop l.length 0 (by omega))
      · simp only [if_neg hv]
        refine Ev.step (fun k => by rw [laws_FnChapters.j1, if_neg (by omega)]) (Ev.now _)
    by_cases hch : (chOf f2 l2 r2 p).2 = 0
    · refine Ev_ite_t hch ?_
      have hcd : cdOf f2 l2 r2 p = 0 ∧ ¬ (chGo p (sFirst r2 l2 (f2 + 1)) l2 0 < 0) := by
        unfold chOf at hch
        by_cases h1 : cdOf f2 l2 r2 p = 0
        · rw [if_pos h1] at hch
          by_cases h2 : chGo p (sFirst r2 l2 (f2 + 1)) l2 0 < 0
          · rw [if_pos h2] at hch; simp at hch
          · exact ⟨h1, h2⟩
        · rw [if_neg h1] at hch; exact absurd hch h1
      have hv2 := (cdOf_book hcd.1).1
      obtain ⟨g0, g1, m0, m1, hx2⟩ := isBk_iff.1 hv2
      have hval : chOf f2 l2 r2 p = (chGo p (sFirst r2 l2 (f2 + 1)) l2 0, 0) := by
        unfold chOf
        rw [if_pos hcd.1, if_neg hcd.2]
      have hcs := implChapterStarts_ev f2 l2 r2
      rw [if_pos hv2] at hcs
      have hl2 := sFirst_length r2 l2 (f2 + 1)
      obtain ⟨m, k1, k2, k3, k4⟩ := chGo_spec p (sFirst r2 l2 (f2 + 1)) l2 0 (by omega) hl2 (by omega)
      have hbd := sFirst_bound r2 l2 (f2 + 1) hx2 (by omega) (by omega) _ (rd_mem (xs := sFirst r2 l2 (f2 + 1)) (i := m) (by omega))
      have hxm := hx2 _ (rd_mem (xs := l2) (i := m) k1)
      rw [Int.zero_add] at k2
      rw [hval]
      simp only
      rw [k2]
      rw [← rd_nat] at k3
      rw [← rd_nat, ← rd_nat] at k4
      refine Ev.bind hcs (Ev_ite_t rfl (Ev_ite_t (by simp only; omega) (Ev_ite_t (by omega) (Ev_ite_t (by simp only; omega) (Ev_ite_f (by simp only; omega) (Ev_ite_t (by omega) (Ev_ite_f (by simp only; rw [w64 (by omega) (by omega)]; omega) hj1)))))))
    · exact Ev_ite_f hch hj1

end Go.Proofs.Ytcgjeglkgdakcaa.Pure
