/- The pure statement of FnLabels: for every input that the row lets in, the law's Lean function answers true; no further condition. -/
import Derived.Test.YtgnopkapkodhhaaDoorQFnLabelsx8
set_option linter.unusedVariables false
set_option linter.unusedSimpArgs false
namespace Go.Proofs.YtgnopkapkodhhaaDoor.Pure
open Go.RowKit Go.Proofs.YtgnopkapkodhhaaDoor.QFnLabels Go.Proofs.YtgnopkapkodhhaaDoorW.PrintWords Go.Proofs.YtgnopkapkodhhaaDoorW.PrintLast

theorem w64 {x : Int} (h0 : -9223372036854775808 ≤ x) (h1 : x ≤ 9223372036854775807) : wrap64 x = x := by unfold wrap64; omega
theorem wz : wrap64 0 = 0 := w64 (by omega) (by omega)
theorem w64_range (x : Int) : -9223372036854775808 ≤ wrap64 x ∧ wrap64 x ≤ 9223372036854775807 := by unfold wrap64; omega
theorem wf64 {x : Int} (h : (Lit.int .i64 x).wf = true) : -9223372036854775808 ≤ x ∧ x ≤ 9223372036854775807 := by
  have h' : (decide (IntKind.i64.min ≤ x) && decide (x ≤ IntKind.i64.max)) = true := h
  simp only [Bool.and_eq_true, decide_eq_true_eq] at h'
  exact h'
theorem wf8 {x : Int} (h : (Lit.int .u8 x).wf = true) : 0 ≤ x ∧ x ≤ 255 := by
  have h' : (decide (IntKind.u8.min ≤ x) && decide (x ≤ IntKind.u8.max)) = true := h
  simp only [Bool.and_eq_true, decide_eq_true_eq] at h'
  exact h'
theorem rd_get {xs : List Int} {i : Nat} (h : i < xs.length) : rd xs (i : Int) = xs[i] := by
  simp [rd, List.getD_eq_getElem?_getD, h]
theorem rd_nat (xs : List Int) (i : Nat) : rd xs (i : Int) = xs.getD i 0 := by simp [rd]
theorem rd_mem {xs : List Int} {i : Nat} (h : i < xs.length) : rd xs (i : Int) ∈ xs := by rw [rd_get h]; exact List.getElem_mem h
theorem rd_ext {xs ys : List Int} (hl : xs.length = ys.length) (h : ∀ i : Nat, i < xs.length → rd xs (i : Int) = rd ys (i : Int)) : xs = ys := by
  apply List.ext_getElem hl
  intro i h1 h2
  have := h i h1
  rwa [rd_get h1, rd_get h2] at this
theorem rd_set {xs : List Int} {i j : Nat} {v : Int} (hi : i < xs.length) : rd (xs.set i v) (j : Int) = if i = j then v else rd xs (j : Int) := by
  simp only [rd_nat, List.getD_eq_getElem?_getD, List.getElem?_set]
  by_cases h : i = j
  · subst h; simp [hi]
  · simp [h]
theorem rd_append_left {xs ys : List Int} {j : Nat} (h : j < xs.length) : rd (xs ++ ys) (j : Int) = rd xs (j : Int) := by
  simp only [rd_nat, List.getD_eq_getElem?_getD, List.getElem?_append_left h]
theorem rd_append_at {xs : List Int} {v : Int} : rd (xs ++ [v]) (xs.length : Int) = v := by
  simp [rd_nat, List.getD_eq_getElem?_getD]
theorem rd_take {xs : List Int} {i j : Nat} (h : j < i) : rd (xs.take i) (j : Int) = rd xs (j : Int) := by
  simp [rd_nat, List.getD_eq_getElem?_getD, List.getElem?_take, h]
theorem rd_drop {xs : List Int} {i j : Nat} : rd (xs.drop i) (j : Int) = rd xs ((i + j : Nat) : Int) := by
  simp only [rd_nat, List.getD_eq_getElem?_getD, List.getElem?_drop]
theorem toNat_cast (i : Nat) : ((i : Nat) : Int).toNat = i := Int.toNat_natCast i
theorem drop_cons {xs : List Int} {i : Nat} (h : i < xs.length) : xs.drop i = rd xs (i : Int) :: xs.drop (i + 1) := by
  rw [rd_get h]; exact List.drop_eq_getElem_cons h
theorem Ev_ite_t {α : Type} {c : Prop} [Decidable c] {f g : Nat → Option α} {r : α} (h : c) (k : Ev f r) : Ev (fun n => if c then f n else g n) r :=
  Ev.congr (fun _ => if_pos h) k
theorem Ev_ite_f {α : Type} {c : Prop} [Decidable c] {f g : Nat → Option α} {r : α} (h : ¬ c) (k : Ev g r) : Ev (fun n => if c then f n else g n) r :=
  Ev.congr (fun _ => if_neg h) k
theorem w64n (i : Nat) (h : i < 9223372036854775807) : wrap64 ((i : Int) + 1) = ((i + 1 : Nat) : Int) := by
  rw [w64 (by omega) (by omega)]; rfl
theorem wrap_add_wrap (a b : Int) : wrap64 (wrap64 a + b) = wrap64 (a + b) := by unfold wrap64; omega
theorem wrap_add_wrap' (a b : Int) : wrap64 (a + wrap64 b) = wrap64 (a + b) := by unfold wrap64; omega
theorem EvE_bind {α β : Type} {g : Nat → Option α} {f : Nat → α → Option β} {a : α} (h : Ev g a) (k : ∃ r, Ev (fun n => f n a) r) : ∃ r, Ev (fun n => (g n).bind (f n)) r := by
  obtain ⟨r, k⟩ := k
  exact ⟨r, Ev.bind h k⟩
theorem EvE_now {α : Type} (a : α) : ∃ r, Ev (fun _ : Nat => some a) r := ⟨a, Ev.now a⟩
theorem EvE_ite_t {α : Type} {c : Prop} [Decidable c] {f g : Nat → Option α} (h : c) (k : ∃ r, Ev f r) : ∃ r, Ev (fun n => if c then f n else g n) r := by
  obtain ⟨r, k⟩ := k
  exact ⟨r, Ev_ite_t h k⟩
theorem EvE_ite_f {α : Type} {c : Prop} [Decidable c] {f g : Nat → Option α} (h : ¬ c) (k : ∃ r, Ev g r) : ∃ r, Ev (fun n => if c then f n else g n) r := by
  obtain ⟨r, k⟩ := k
  exact ⟨r, Ev_ite_f h k⟩
theorem l01In_eq (n a b : Int) : spec_l01In.f n a b = some (decide (a ≤ n ∧ n ≤ b)) := by
  unfold spec_l01In.f
  by_cases h : n ≥ a
  · rw [if_pos h]; simp [show a ≤ n from h]
  · rw [if_neg h]; simp [show ¬ a ≤ n from h]
theorem inRange_eq (n a b : Int) : impl_inRange.f n a b = some (decide (a ≤ n ∧ n ≤ b)) := by
  unfold impl_inRange.f
  by_cases h : a ≤ n
  · rw [if_pos h]; simp [h]
  · rw [if_neg h]; simp [h]
theorem maxLen_eq : maxLen = 9223372036854775807 := by decide
def isBk (f : Int) (l : List Int) : Bool := decide (0 ≤ f ∧ f ≤ 40 ∧ 1 ≤ l.length ∧ l.length ≤ 20 ∧ ∀ x ∈ l, 1 ≤ x ∧ x ≤ 200)
theorem isBk_iff {f : Int} {l : List Int} : isBk f l = true ↔ 0 ≤ f ∧ f ≤ 40 ∧ 1 ≤ l.length ∧ l.length ≤ 20 ∧ ∀ x ∈ l, 1 ≤ x ∧ x ≤ 200 := by unfold isBk; exact decide_eq_true_iff
theorem within_ev (l : List Int) (m lo hi : Int) (hl : l.length ≤ 35184372088832) (b : Bool) (hb : b = true ↔ (l.length : Int) ≤ m ∧ ∀ x ∈ l, lo ≤ x ∧ x ≤ hi) : Ev (fun k => spec_l01Within.f k l m lo hi) b := by
  have loop : ∀ (d i : Nat), i + d = l.length → ∀ b : Bool, (b = true ↔ (l.length : Int) ≤ m ∧ ∀ x ∈ l.drop i, lo ≤ x ∧ x ≤ hi) → Ev (fun k => spec_l01Within.l0 k l m lo hi (i : Int)) b := by
    intro d
    induction d with
    | zero =>
      intro i hi' b hb
      have e : b = decide ((l.length : Int) ≤ m) := by
        rw [Bool.eq_iff_iff, hb, decide_eq_true_iff, show l.drop i = [] from List.drop_of_length_le (by omega)]
        exact ⟨fun h => h.1, fun h => ⟨h, fun x hx => by simp at hx⟩⟩
      rw [e]
      exact Ev.step (f := fun _ => some (decide ((l.length : Int) ≤ m))) (fun k => by rw [spec_l01Within.l0, if_neg (by omega)]) (Ev.now _)
    | succ d ih =>
      intro i hi' b hb
      refine Ev.step (f := fun k => if decide (lo ≤ rd l (i : Int) ∧ rd l (i : Int) ≤ hi) = true then spec_l01Within.l0 k l m lo hi ((i + 1 : Nat) : Int) else some false) (fun k => by rw [spec_l01Within.l0, if_pos (by omega), if_pos (by omega), l01In_eq, w64n i (by omega)]; rfl) ?_
      rw [drop_cons (xs := l) (i := i) (by omega)] at hb
      simp only [List.mem_cons, forall_eq_or_imp] at hb
      by_cases h : lo ≤ rd l (i : Int) ∧ rd l (i : Int) ≤ hi
      · refine Ev_ite_t (decide_eq_true h) (ih (i + 1) (by omega) b ?_)
        rw [hb]
        exact ⟨fun x => ⟨x.1, x.2.2⟩, fun x => ⟨x.1, h, x.2⟩⟩
      · have e : b = false := by
          rw [Bool.eq_false_iff]; intro hbt
          exact h (hb.1 hbt).2.1
        rw [e]
        exact Ev_ite_f (by rw [decide_eq_true_iff]; exact h) (Ev.now _)
  have := loop l.length 0 (by omega) b (by rw [List.drop_zero]; exact hb)
  exact Ev.congr (fun k => rfl) this
theorem specIsBook_ev (f : Int) (l : List Int) (r : Bool) (hl : l.length ≤ 35184372088832) : Ev (fun k => spec_IsBook.f k f l r) (isBk f l) := by
  unfold spec_IsBook.f
  simp only [l01In_eq, Option.bind_some, decide_eq_true_eq]
  by_cases h1 : 0 ≤ f ∧ f ≤ 40
  · refine Ev_ite_t h1 ?_
    by_cases h2 : (l.length : Int) > 0
    · refine Ev_ite_t h2 (Ev.bind (within_ev l 20 1 200 hl (isBk f l) ?_) (Ev.now _))
      rw [isBk_iff]
      constructor
      · rintro ⟨_, _, _, a, b⟩; exact ⟨by omega, b⟩
      · rintro ⟨a, b⟩; exact ⟨h1.1, h1.2, by omega, by omega, b⟩
    · have e : isBk f l = false := by rw [Bool.eq_false_iff]; intro h; have := isBk_iff.1 h; omega
      rw [e]
      exact Ev_ite_f h2 (Ev.now _)
  · have e : isBk f l = false := by rw [Bool.eq_false_iff]; intro h; have := isBk_iff.1 h; omega
    rw [e]
    exact Ev_ite_f h1 (Ev.now _)
theorem allIn_eq (l : List Int) (lo hi : Int) : impl_allIn.f l lo hi = some (decide (∀ x ∈ l, lo ≤ x ∧ x ≤ hi)) := by
  unfold impl_allIn.f
  congr 1
  rw [Bool.eq_iff_iff, decide_eq_true_iff, Bool.not_eq_true', List.any_eq_false]
  unfold allIn_out
  constructor
  · intro h x hx; simpa using h x hx
  · intro h x hx; simpa using h x hx
theorem implIsBook_eq (f : Int) (l : List Int) (r : Bool) : impl_IsBook.f f l r = some (isBk f l) := by
  unfold impl_IsBook.f impl_length_int64.f
  simp only [inRange_eq, allIn_eq, Option.bind_some, decide_eq_true_eq]
  by_cases h1 : 0 ≤ f ∧ f ≤ 40
  · rw [if_pos h1]
    by_cases h2 : 1 ≤ (l.length : Int) ∧ (l.length : Int) ≤ 20
    · rw [if_pos h2]
      unfold isBk
      congr 1
      rw [decide_eq_decide]
      constructor
      · intro b; exact ⟨h1.1, h1.2, by omega, by omega, b⟩
      · rintro ⟨_, _, _, _, b⟩; exact b
    · rw [if_neg h2]
      congr 1
      symm
      rw [Bool.eq_false_iff]; intro h; have := isBk_iff.1 h; omega
  · rw [if_neg h1]
    congr 1
    symm
    rw [Bool.eq_false_iff]; intro h; have := isBk_iff.1 h; omega
def st (r : Bool) (x : Int) : Int := if r = true ∧ Int.tmod x 2 = 0 then x + 1 else x
def sFirst (r : Bool) : List Int → Int → List Int
  | [], _ => []
  | n :: t, x => st r x :: sFirst r t (st r x + n)
def sBlank (r : Bool) : List Int → Int → List Int
  | [], _ => []
  | n :: t, x => (if r = true ∧ Int.tmod x 2 = 0 then [x] else []) ++ sBlank r t (st r x + n)
def sEnd (r : Bool) : List Int → Int → Int
  | [], x => x
  | n :: t, x => sEnd r t (st r x + n)
theorem st_ge (r : Bool) (x : Int) : x ≤ st r x ∧ st r x ≤ x + 1 := by unfold st; split <;> omega
theorem sFirst_length (r : Bool) : ∀ (l : List Int) (x : Int), (sFirst r l x).length = l.length
  | [], _ => rfl
  | n :: t, x => by rw [sFirst, List.length_cons, sFirst_length r t, List.length_cons]
theorem sBlank_length (r : Bool) : ∀ (l : List Int) (x : Int), (sBlank r l x).length ≤ l.length
  | [], _ => Nat.le_refl _
  | n :: t, x => by
    have := sBlank_length r t (st r x + n)
    rw [sBlank, List.length_append, List.length_cons]
    split
    · rw [List.length_singleton]; omega
    · rw [List.length_nil]; omega
theorem sEnd_bound0 (r : Bool) : ∀ (l : List Int) (x : Int), (∀ n ∈ l, 0 ≤ n ∧ n ≤ 201) → x ≤ sEnd r l x ∧ sEnd r l x ≤ x + 202 * l.length
  | [], x, _ => by simp [sEnd]
  | n :: t, x, h => by
    have h1 := h n (by simp)
    have h2 := sEnd_bound0 r t (st r x + n) (fun m hm => h m (by simp [hm]))
    have h3 := st_ge r x
    rw [sEnd, List.length_cons]
    omega
theorem sEnd_bound (r : Bool) (l : List Int) (x : Int) (h : ∀ n ∈ l, 1 ≤ n ∧ n ≤ 200) : x ≤ sEnd r l x ∧ sEnd r l x ≤ x + 202 * l.length :=
  sEnd_bound0 r l x (fun n hn => by have := h n hn; omega)
theorem sFirst_bound (r : Bool) : ∀ (l : List Int) (x : Int), (∀ n ∈ l, 1 ≤ n ∧ n ≤ 200) → 0 ≤ x → x + 201 * l.length ≤ 100000 → ∀ s ∈ sFirst r l x, 0 ≤ s ∧ s ≤ 100000
  | [], x, _, _, _, s, hs => by simp [sFirst] at hs
  | n :: t, x, h, h0, hm, s, hs => by
    have h1 := h n (by simp)
    have h3 := st_ge r x
    rw [List.length_cons] at hm
    rw [sFirst, List.mem_cons] at hs
    rcases hs with rfl | hs
    · omega
    · exact sFirst_bound r t (st r x + n) (fun m hm => h m (by simp [hm])) (by omega) (by omega) s hs
theorem specStarts_gen (f : Int) (l : List Int) (r : Bool) (f0 : -1 ≤ f) (f1 : f ≤ 41) (l1 : l.length ≤ 21) (hx : ∀ n ∈ l, 0 ≤ n ∧ n ≤ 201) : Ev (fun k => spec_l02Starts.f k f l r) (sFirst r l (f + 1), sEnd r l (f + 1)) := by
  have loop : ∀ (d i : Nat), i + d = l.length → ∀ (x : Int) (out : List Int), out.length = i → 0 ≤ x → x ≤ 42 + 203 * i → Ev (fun k => spec_l02Starts.l0 k out x (i : Int) f l r) (out ++ sFirst r (l.drop i) x, sEnd r (l.drop i) x) := by
    intro d
    induction d with
    | zero =>
      intro i hi x out ho x0 x1
      rw [show l.drop i = [] from List.drop_of_length_le (by omega)]
      simp only [sFirst, sEnd, List.append_nil]
      exact Ev.step (f := fun _ => some (out, x)) (fun k => by rw [spec_l02Starts.l0, if_neg (by omega)]) (Ev.now _)
    | succ d ih =>
      intro i hi x out ho x0 x1
      have hn := hx (rd l (i : Int)) (rd_mem (by omega))
      have hs := st_ge r x
      have h := ih (i + 1) (by omega) (st r x + rd l (i : Int)) (out ++ [st r x]) (by simp [ho]) (by omega) (by omega)
      rw [drop_cons (xs := l) (i := i) (by omega), sFirst, sEnd]
      rw [List.append_assoc] at h
      refine Ev.step (fun k => ?_) h
      rw [spec_l02Starts.l0, if_pos (by omega)]
      by_cases hr : r = true
      · rw [if_pos hr]
        by_cases ht : Int.tmod x 2 = 0
        · have e : st r x = x + 1 := if_pos ⟨hr, ht⟩
          rw [e] at hs ⊢
          rw [if_pos ht, if_pos (by omega), if_pos (by omega), w64 (x := x + 1) (by omega) (by omega), w64 (x := x + 1 + rd l (i : Int)) (by omega) (by omega), w64n i (by omega)]
        · have e : st r x = x := if_neg (fun z => ht z.2)
          rw [e] at hs ⊢
          rw [if_neg ht, if_pos (by omega), if_pos (by omega), w64 (x := x + rd l (i : Int)) (by omega) (by omega), w64n i (by omega)]
      · have e : st r x = x := if_neg (fun z => hr z.1)
        rw [e] at hs ⊢
        rw [if_neg hr, if_pos (by omega), if_pos (by omega), w64 (x := x + rd l (i : Int)) (by omega) (by omega), w64n i (by omega)]
  have := loop l.length 0 (by omega) (f + 1) [] rfl (by omega) (by omega)
  rw [List.drop_zero, List.nil_append] at this
  refine Ev.congr (fun k => ?_) this
  rw [spec_l02Starts.f, w64 (x := f + 1) (by omega) (by omega)]
  rfl
theorem specStarts_ev (f : Int) (l : List Int) (r : Bool) (hb : isBk f l = true) : Ev (fun k => spec_l02Starts.f k f l r) (sFirst r l (f + 1), sEnd r l (f + 1)) := by
  obtain ⟨f0, f1, l0, l1, hx⟩ := isBk_iff.1 hb
  exact specStarts_gen f l r (by omega) (by omega) (by omega) (fun n hn => by have := hx n hn; omega)
theorem implStarts_ev (f : Int) (l : List Int) (r : Bool) (hb : isBk f l = true) : Ev (fun k => impl_starts.f k f l r) (sFirst r l (f + 1), sBlank r l (f + 1), sEnd r l (f + 1) - 1) := by
  obtain ⟨f0, f1, l0, l1, hx⟩ := isBk_iff.1 hb
  have loop : ∀ (d i : Nat), i + d = l.length → ∀ (x : Int) (out bl : List Int), out.length = i → bl.length ≤ i → 0 ≤ x → x ≤ 41 + 201 * i → Ev (fun k => impl_starts.l0 k out bl x l (l.length : Int) (i : Int) f l r) (out ++ sFirst r (l.drop i) x, bl ++ sBlank r (l.drop i) x, sEnd r (l.drop i) x - 1) := by
    intro d
    induction d with
    | zero =>
      intro i hi x out bl ho hbl x0 x1
      rw [show l.drop i = [] from List.drop_of_length_le (by omega)]
      simp only [sFirst, sEnd, sBlank, List.append_nil]
      exact Ev.step (f := fun _ => some (out, bl, x - 1)) (fun k => by rw [impl_starts.l0, if_neg (by omega), w64 (x := x - 1) (by omega) (by omega)]) (Ev.now _)
    | succ d ih =>
      intro i hi x out bl ho hbl x0 x1
      have hn := hx (rd l (i : Int)) (rd_mem (by omega))
      have hs := st_ge r x
      rw [drop_cons (xs := l) (i := i) (by omega), sFirst, sEnd, sBlank]
      by_cases hr : r = true
      · by_cases ht : Int.tmod x 2 = 0
        · have e : st r x = x + 1 := if_pos ⟨hr, ht⟩
          have h := ih (i + 1) (by omega) (st r x + rd l (i : Int)) (out ++ [st r x]) (bl ++ [x]) (by simp [ho]) (by simp; omega) (by omega) (by omega)
          rw [List.append_assoc, List.append_assoc] at h
          rw [if_pos ⟨hr, ht⟩]
          refine Ev.step (fun k => ?_) h
          rw [e] at hs ⊢
          rw [impl_starts.l0, if_pos (by omega), if_pos (by omega), if_pos (by omega), if_pos hr, if_pos ht, if_pos (by omega), if_pos (by omega), w64 (x := x + 1) (by omega) (by omega), w64 (x := x + 1 + rd l (i : Int)) (by omega) (by omega), w64n i (by omega)]
        · have e : st r x = x := if_neg (fun z => ht z.2)
          have h := ih (i + 1) (by omega) (st r x + rd l (i : Int)) (out ++ [st r x]) bl (by simp [ho]) (by omega) (by omega) (by omega)
          rw [List.append_assoc] at h
          rw [if_neg (fun z => ht z.2), List.nil_append]
          refine Ev.step (fun k => ?_) h
          rw [e] at hs ⊢
          rw [impl_starts.l0, if_pos (by omega), if_pos (by omega), if_pos (by omega), if_pos hr, if_neg ht, if_pos (by omega), w64 (x := x + rd l (i : Int)) (by omega) (by omega), w64n i (by omega)]
      · have e : st r x = x := if_neg (fun z => hr z.1)
        have h := ih (i + 1) (by omega) (st r x + rd l (i : Int)) (out ++ [st r x]) bl (by simp [ho]) (by omega) (by omega) (by omega)
        rw [List.append_assoc] at h
        rw [if_neg (fun z => hr z.1), List.nil_append]
        refine Ev.step (fun k => ?_) h
        rw [e] at hs ⊢
        rw [impl_starts.l0, if_pos (by omega), if_pos (by omega), if_pos (by omega), if_neg hr, if_pos (by omega), w64 (x := x + rd l (i : Int)) (by omega) (by omega), w64n i (by omega)]
  have := loop l.length 0 (by omega) (f + 1) [] [] rfl (by simp) (by omega) (by omega)
  rw [List.drop_zero, List.nil_append, List.nil_append] at this
  refine Ev.congr (fun k => ?_) this
  rw [impl_starts.f, w64 (x := f + 1) (by omega) (by omega)]
  rfl
theorem implPageCount_ev (f : Int) (l : List Int) (r : Bool) : Ev (fun k => impl_PageCount.f k f l r) (if isBk f l = true then (sEnd r l (f + 1) - 1, 0) else (0, 1)) := by
  unfold impl_PageCount.f
  rw [implIsBook_eq]
  simp only [Option.bind_some]
  by_cases h : isBk f l = true
  · rw [if_pos h]
    exact Ev_ite_t h (Ev.bind (implStarts_ev f l r h) (Ev.now _))
  · rw [if_neg h]
    exact Ev_ite_f h (Ev.now _)
def mkb (l : List UInt8) : ByteArray := ⟨l.toArray⟩
theorem mkb_list (l : List UInt8) : (mkb l).toList = l := by rw [ByteArray.toList_eq]; rfl
theorem mkb_size (l : List UInt8) : (mkb l).size = l.length := by show l.toArray.size = _; exact List.size_toArray
theorem mkb_append (a b : List UInt8) : mkb a ++ mkb b = mkb (a ++ b) := by
  apply ByteArray.ext
  rw [ByteArray.data_append]
  show a.toArray ++ b.toArray = (a ++ b).toArray
  simp
theorem mkb_of (s : ByteArray) : s = mkb s.data.toList := by
  apply ByteArray.ext
  show s.data = s.data.toList.toArray
  simp
def digL (o f t : List UInt8) : Nat → List UInt8
  | 0 => []
  | 1 => o
  | 2 => o ++ o
  | 3 => o ++ o ++ o
  | 4 => o ++ f
  | 5 => f
  | 6 => f ++ o
  | 7 => f ++ o ++ o
  | 8 => f ++ o ++ o ++ o
  | _ => o ++ t
theorem dig_m : ∀ d : Fin 10, (spec_l02Digit.f 6 (d.val : Int) (mkb [109]) (mkb []) (mkb [])).map (fun s => s.data.toList) = some (digL [109] [] [] d.val) := by decide +kernel
theorem dig_c : ∀ d : Fin 10, (spec_l02Digit.f 6 (d.val : Int) (mkb [99]) (mkb [100]) (mkb [109])).map (fun s => s.data.toList) = some (digL [99] [100] [109] d.val) := by decide +kernel
theorem dig_x : ∀ d : Fin 10, (spec_l02Digit.f 6 (d.val : Int) (mkb [120]) (mkb [108]) (mkb [99])).map (fun s => s.data.toList) = some (digL [120] [108] [99] d.val) := by decide +kernel
theorem dig_i : ∀ d : Fin 10, (spec_l02Digit.f 6 (d.val : Int) (mkb [105]) (mkb [118]) (mkb [120])).map (fun s => s.data.toList) = some (digL [105] [118] [120] d.val) := by decide +kernel
theorem of_map {x : Option ByteArray} {l : List UInt8} (h : x.map (fun s => s.data.toList) = some l) : x = some (mkb l) := by
  cases x with
  | none => simp at h
  | some s =>
    simp only [Option.map_some, Option.some.injEq] at h
    rw [← h, ← mkb_of]
theorem dig_ev {o f t : ByteArray} {d : Nat} {l : List UInt8} (h : (spec_l02Digit.f 6 (d : Int) o f t).map (fun s => s.data.toList) = some l) : Ev (fun k => spec_l02Digit.f k (d : Int) o f t) (mkb l) := Ev.of (spec_l02Digit.mono _ _ _ _) (of_map h)
theorem dig_len (o f t : List UInt8) (ho : o.length ≤ 1) (hf : f.length ≤ 1) (ht : t.length ≤ 1) (d : Nat) : (digL o f t d).length ≤ 4 := by
  match d with
  | 0 | 1 | 2 | 3 | 4 | 5 | 6 | 7 | 8 | n + 9 => simp [digL] <;> omega
theorem rom_all2 : ∀ a : Fin 40, ∀ b : Fin 100, romAll romTab ((100 * a.val + b.val : Nat) : Int) [] = ((digL [109] [] [] ((100 * a.val + b.val) / 1000) ++ digL [99] [100] [109] ((100 * a.val + b.val) / 100 % 10)) ++ digL [120] [108] [99] ((100 * a.val + b.val) / 10 % 10)) ++ digL [105] [118] [120] ((100 * a.val + b.val) % 10) := by decide +kernel
theorem rom_all (n : Nat) (h : n < 4000) : romAll romTab (n : Int) [] = ((digL [109] [] [] (n / 1000) ++ digL [99] [100] [109] (n / 100 % 10)) ++ digL [120] [108] [99] (n / 10 % 10)) ++ digL [105] [118] [120] (n % 10) := by
  have := rom_all2 ⟨n / 100, by omega⟩ ⟨n % 100, by omega⟩
  simp only [show 100 * (n / 100) + n % 100 = n by omega] at this
  exact this
def romV (n : Int) : ByteArray := if 1 ≤ n ∧ n ≤ 3999 then mkb (romAll romTab n []) else mkb []
theorem implRoman_eq (n : Int) : impl_RomanText.f n = some (romV n) := by
  unfold impl_RomanText.f romV
  split
  · rfl
  · rfl
theorem specRoman_ev (n : Int) : Ev (fun k => spec_RomanText.f k n) (romV n) := by
  unfold spec_RomanText.f romV
  simp only [l01In_eq, Option.bind_some, decide_eq_true_eq]
  by_cases h : 1 ≤ n ∧ n ≤ 3999
  · rw [if_pos h]
    refine Ev_ite_t h ?_
    obtain ⟨m, rfl⟩ := Int.eq_ofNat_of_zero_le (show 0 ≤ n by omega)
    have hm : m < 4000 := by omega
    have e1 : wrap64 (Int.tdiv (m : Int) 1000) = ((m / 1000 : Nat) : Int) := by rw [Int.tdiv_eq_ediv_of_nonneg (by omega), w64 (by omega) (by omega)]; omega
    have e2 : Int.tmod (wrap64 (Int.tdiv (m : Int) 100)) 10 = ((m / 100 % 10 : Nat) : Int) := by rw [Int.tdiv_eq_ediv_of_nonneg (by omega), w64 (by omega) (by omega), Int.tmod_eq_emod_of_nonneg (by omega)]; omega
    have e3 : Int.tmod (wrap64 (Int.tdiv (m : Int) 10)) 10 = ((m / 10 % 10 : Nat) : Int) := by rw [Int.tdiv_eq_ediv_of_nonneg (by omega), w64 (by omega) (by omega), Int.tmod_eq_emod_of_nonneg (by omega)]; omega
    have e4 : Int.tmod (m : Int) 10 = ((m % 10 : Nat) : Int) := by rw [Int.tmod_eq_emod_of_nonneg (by omega)]; omega
    rw [e1, e2, e3, e4]
    have l1 := dig_len [109] [] [] (by simp) (by simp) (by simp) (m / 1000)
    have l2 := dig_len [99] [100] [109] (by simp) (by simp) (by simp) (m / 100 % 10)
    have l3 := dig_len [120] [108] [99] (by simp) (by simp) (by simp) (m / 10 % 10)
    have l4 := dig_len [105] [118] [120] (by simp) (by simp) (by simp) (m % 10)
    have hall := rom_all m hm
    rw [hall]
    have d1 := dig_ev (dig_m ⟨m / 1000, by omega⟩)
    have d2 := dig_ev (dig_c ⟨m / 100 % 10, by omega⟩)
    have d3 := dig_ev (dig_x ⟨m / 10 % 10, by omega⟩)
    have d4 := dig_ev (dig_i ⟨m % 10, by omega⟩)
    simp only at d1 d2 d3 d4
    generalize digL [109] [] [] (m / 1000) = x1 at *
    generalize digL [99] [100] [109] (m / 100 % 10) = x2 at *
    generalize digL [120] [108] [99] (m / 10 % 10) = x3 at *
    generalize digL [105] [118] [120] (m % 10) = x4 at *
    refine Ev.bind d1 (Ev.bind d2 (Ev_ite_t (by rw [mkb_size, mkb_size]; omega) (Ev.bind d3 (Ev_ite_t (by rw [mkb_append, mkb_size, mkb_size, List.length_append]; omega) (Ev.bind d4 (Ev_ite_t (by rw [mkb_append, mkb_append, mkb_size, mkb_size, List.length_append, List.length_append]; omega) ?_))))))
    rw [mkb_append, mkb_append, mkb_append]
    exact Ev.now _
  · rw [if_neg h]
    exact Ev_ite_f h (Ev.now _)
def dgs (n : Nat) : List UInt8 := Go.Lib.decDigits n
theorem dgs_one {n : Nat} (h : n < 10) : dgs n = [UInt8.ofNat (48 + n)] := Go.Lib.decDigits_one h
theorem dgs_more {n : Nat} (h : ¬ n < 10) : dgs n = dgs (n / 10) ++ [UInt8.ofNat (48 + n % 10)] := by
  unfold dgs
  rw [Go.Lib.decDigits, dif_neg h]
theorem dgs_len (n : Nat) : 1 ≤ (dgs n).length ∧ (dgs n).length ≤ n + 1 := by
  induction n using Nat.strongRecOn with
  | ind n ih =>
    by_cases h : n < 10
    · rw [dgs_one h]; simp
    · rw [dgs_more h, List.length_append]
      have := ih (n / 10) (by omega)
      simp only [List.length_singleton]
      omega
theorem str_dig : ∀ d : Fin 10, (strOfNums [(wrap64 (48 + (d.val : Int))) % 256]).data.toList = [UInt8.ofNat (48 + d.val)] := by decide +kernel
theorem str_dig' (d : Nat) (h : d < 10) : strOfNums [(wrap64 (48 + (d : Int))) % 256] = mkb [UInt8.ofNat (48 + d)] := by
  have := str_dig ⟨d, h⟩
  rw [mkb_of (strOfNums [(wrap64 (48 + (d : Int))) % 256])]
  exact congrArg mkb this
theorem dec_ev (n : Nat) : n ≤ 9223372036854775807 → Ev (fun k => spec_l01Dec.f k (n : Int)) (mkb (dgs n)) := by
  induction n using Nat.strongRecOn with
  | ind n ih =>
    intro hn
    by_cases h : n < 10
    · refine Ev.step (f := fun _ => some (mkb (dgs n))) (fun k => ?_) (Ev.now _)
      rw [spec_l01Dec.f, if_pos (by omega), dgs_one h, str_dig' n h]
    · rw [dgs_more h]
      have e1 : wrap64 (Int.tdiv (n : Int) 10) = ((n / 10 : Nat) : Int) := by rw [Int.tdiv_eq_ediv_of_nonneg (by omega), w64 (by omega) (by omega)]; omega
      have e2 : Int.tmod (n : Int) 10 = ((n % 10 : Nat) : Int) := by rw [Int.tmod_eq_emod_of_nonneg (by omega)]; omega
      have hl := dgs_len (n / 10)
      refine Ev.step (f := fun k => (spec_l01Dec.f k ((n / 10 : Nat) : Int)).bind fun t => if t.size + (mkb [UInt8.ofNat (48 + n % 10)]).size ≤ 9223372036854775807 then some (t ++ mkb [UInt8.ofNat (48 + n % 10)]) else none) (fun k => ?_) ?_
      · rw [spec_l01Dec.f, if_neg (by omega), e1, e2]
        simp only [Option.bind_some]
        rw [str_dig' (n % 10) (by omega)]
      · refine Ev.bind (ih (n / 10) (by omega) (by omega)) ?_
        refine Ev_ite_t (by rw [mkb_size, mkb_size]; simp only [List.length_singleton]; omega) ?_
        rw [mkb_append]
        exact Ev.now _
theorem impl_dec (n : Nat) (hn : n ≤ 9223372036854775807) : impl_decimal.f (n : Int) = some (mkb (dgs n)) := by
  unfold impl_decimal.f
  rw [if_pos (by omega)]
  show some (mkb (Go.Lib.itoa (n : Int))) = _
  rw [Go.Lib.itoa_nonneg]
  rfl
def lbl (f : Int) (l : List Int) (r : Bool) (p : Int) : ByteArray := if p < rd (sFirst r l (f + 1)) 0 then romV p else mkb (dgs (p - rd (sFirst r l (f + 1)) 0 + 1).toNat)
theorem first_facts {f : Int} {l : List Int} {r : Bool} (hb : isBk f l = true) : 0 < ((sFirst r l (f + 1)).length : Int) ∧ 0 ≤ rd (sFirst r l (f + 1)) 0 ∧ rd (sFirst r l (f + 1)) 0 ≤ 42 := by
  obtain ⟨f0, f1, l0, l1, hx⟩ := isBk_iff.1 hb
  have hlen := sFirst_length r l (f + 1)
  cases l with
  | nil => simp at l0
  | cons n t =>
    refine ⟨by rw [hlen, List.length_cons]; omega, ?_⟩
    have h3 := st_ge r (f + 1)
    have e : rd (sFirst r (n :: t) (f + 1)) 0 = st r (f + 1) := by rw [sFirst]; rfl
    rw [e]
    omega
theorem specLabel_ev {f : Int} {l : List Int} {r : Bool} (hb : isBk f l = true) (p : Int) (h0 : 0 ≤ p) (h1 : p ≤ 100000) : Ev (fun k => spec_l02Label.f k f l r p) (lbl f l r p) := by
  obtain ⟨h2, h3, h4⟩ := first_facts (r := r) hb
  unfold spec_l02Label.f lbl
  refine Ev.bind (specStarts_ev f l r hb) (Ev_ite_t h2 ?_)
  simp only
  by_cases h : p < rd (sFirst r l (f + 1)) 0
  · rw [if_pos h]
    exact Ev_ite_t h (Ev.bind (specRoman_ev p) (Ev.now _))
  · rw [if_neg h, w64 (x := p - rd (sFirst r l (f + 1)) 0) (by omega) (by omega), w64 (x := p - rd (sFirst r l (f + 1)) 0 + 1) (by omega) (by omega)]
    have e : p - rd (sFirst r l (f + 1)) 0 + 1 = ((p - rd (sFirst r l (f + 1)) 0 + 1).toNat : Int) := by omega
    refine Ev_ite_f h ?_
    have := dec_ev (p - rd (sFirst r l (f + 1)) 0 + 1).toNat (by omega)
    rw [← e] at this
    exact Ev.bind this (Ev.now _)
theorem implLabel_ev {f : Int} {l : List Int} {r : Bool} (hb : isBk f l = true) (p : Int) (h0 : 0 ≤ p) (h1 : p ≤ 100000) : Ev (fun k => impl_labelOf.f k f l r p) (lbl f l r p) := by
  obtain ⟨h2, h3, h4⟩ := first_facts (r := r) hb
  unfold impl_labelOf.f lbl
  refine Ev.bind (implStarts_ev f l r hb) (Ev_ite_t h2 ?_)
  simp only
  by_cases h : p < rd (sFirst r l (f + 1)) 0
  · simp only [if_pos h, implRoman_eq, Option.bind_some]
    exact Ev.now _
  · have e : p - rd (sFirst r l (f + 1)) 0 + 1 = ((p - rd (sFirst r l (f + 1)) 0 + 1).toNat : Int) := by omega
    have := impl_dec (p - rd (sFirst r l (f + 1)) 0 + 1).toNat (by omega)
    rw [← e] at this
    simp only [if_neg h, w64 (x := p - rd (sFirst r l (f + 1)) 0) (by omega) (by omega), w64 (x := p - rd (sFirst r l (f + 1)) 0 + 1) (by omega) (by omega), this, Option.bind_some]
    exact Ev.now _
def cdOf (f : Int) (l : List Int) (r : Bool) (p : Int) : Int := if isBk f l = true then (if 1 ≤ p ∧ p ≤ sEnd r l (f + 1) - 1 then 0 else 2) else 1
theorem specCode_ev (f : Int) (l : List Int) (r : Bool) (p : Int) (hl : l.length ≤ 35184372088832) : Ev (fun k => spec_l02Code.f k f l r p) (cdOf f l r p) := by
  unfold spec_l02Code.f cdOf
  refine Ev.bind (specIsBook_ev f l r hl) ?_
  by_cases hb : isBk f l = true
  · obtain ⟨f0, f1, l0, l1, hx⟩ := isBk_iff.1 hb
    have hE := sEnd_bound r l (f + 1) hx
    rw [if_pos hb]
    refine Ev_ite_t hb (Ev.bind (specStarts_ev f l r hb) ?_)
    simp only [l01In_eq, Option.bind_some, decide_eq_true_eq]
    rw [w64 (x := sEnd r l (f + 1) - 1) (by omega) (by omega)]
    by_cases h : 1 ≤ p ∧ p ≤ sEnd r l (f + 1) - 1
    · simp only [if_pos h]; exact Ev.now _
    · simp only [if_neg h]; exact Ev.now _
  · rw [if_neg hb]; exact Ev_ite_f hb (Ev.now _)
theorem implCode_ev (f : Int) (l : List Int) (r : Bool) (p : Int) : Ev (fun k => impl_checkPage.f k f l r p) (cdOf f l r p) := by
  unfold impl_checkPage.f cdOf
  refine Ev.bind (implPageCount_ev f l r) ?_
  by_cases hb : isBk f l = true
  · rw [if_pos hb, if_pos hb]
    refine Ev_ite_t rfl ?_
    simp only [inRange_eq, Option.bind_some, decide_eq_true_eq]
    by_cases h : 1 ≤ p ∧ p ≤ sEnd r l (f + 1) - 1
    · simp only [if_pos h]; exact Ev.now _
    · simp only [if_neg h]; exact Ev.now _
  · rw [if_neg hb, if_neg hb]
    exact Ev_ite_f (by simp) (Ev.now _)
theorem cdOf_book {f : Int} {l : List Int} {r : Bool} {p : Int} (h : cdOf f l r p = 0) : isBk f l = true ∧ 1 ≤ p ∧ p ≤ sEnd r l (f + 1) - 1 := by
  unfold cdOf at h
  by_cases hb : isBk f l = true
  · rw [if_pos hb] at h
    by_cases h2 : 1 ≤ p ∧ p ≤ sEnd r l (f + 1) - 1
    · exact ⟨hb, h2.1, h2.2⟩
    · rw [if_neg h2] at h; omega
  · rw [if_neg hb] at h; omega
theorem cd_bound {f : Int} {l : List Int} {r : Bool} {p : Int} (h : cdOf f l r p = 0) : isBk f l = true ∧ 1 ≤ p ∧ p ≤ 100000 := by
  obtain ⟨hb, h1, h2⟩ := cdOf_book h
  obtain ⟨f0, f1, l0, l1, hx⟩ := isBk_iff.1 hb
  have hE := sEnd_bound r l (f + 1) hx
  exact ⟨hb, h1, by omega⟩
def lbOf (f : Int) (l : List Int) (r : Bool) (p : Int) : ByteArray × Int := if cdOf f l r p = 0 then (lbl f l r p, 0) else (mkb [], cdOf f l r p)
theorem specLabelOf_ev (f : Int) (l : List Int) (r : Bool) (p : Int) (hl : l.length ≤ 35184372088832) : Ev (fun k => spec_LabelOf.f k f l r p) (lbOf f l r p) := by
  unfold spec_LabelOf.f lbOf
  refine Ev.bind (specCode_ev f l r p hl) ?_
  by_cases h : cdOf f l r p = 0
  · obtain ⟨hb, h1, h2⟩ := cd_bound h
    rw [if_pos h]
    exact Ev_ite_t h (Ev.bind (specLabel_ev hb p (by omega) h2) (Ev.now _))
  · rw [if_neg h]; exact Ev_ite_f h (Ev.now _)
theorem implLabelOf_ev (f : Int) (l : List Int) (r : Bool) (p : Int) : Ev (fun k => impl_LabelOf.f k f l r p) (lbOf f l r p) := by
  unfold impl_LabelOf.f lbOf
  refine Ev.bind (implCode_ev f l r p) ?_
  by_cases h : cdOf f l r p = 0
  · obtain ⟨hb, h1, h2⟩ := cd_bound h
    rw [if_pos h]
    exact Ev_ite_t h (Ev.bind (implLabel_ev hb p (by omega) h2) (Ev.now _))
  · rw [if_neg h]; exact Ev_ite_f h (Ev.now _)
def plGo (f : Int) (l : List Int) (r : Bool) (s : ByteArray) : Nat → Int → Int × Int
  | 0, _ => (0, 4)
  | d + 1, p => if (lbl f l r p).toList = s.toList then (p, 0) else plGo f l r s d (p + 1)
def plOf (f : Int) (l : List Int) (r : Bool) (s : ByteArray) : Int × Int := if isBk f l = true then plGo f l r s (sEnd r l (f + 1) - 1).toNat 1 else (0, 1)
theorem specPageOf_ev (f : Int) (l : List Int) (r : Bool) (s : ByteArray) (hl : l.length ≤ 35184372088832) : Ev (fun k => spec_PageOfLabel.f k f l r s) (plOf f l r s) := by
  unfold spec_PageOfLabel.f plOf
  refine Ev.bind (specIsBook_ev f l r hl) ?_
  by_cases hb : isBk f l = true
  · rw [if_pos hb]
    refine Ev_ite_t hb (Ev.bind (specStarts_ev f l r hb) ?_)
    obtain ⟨f0, f1, l0, l1, hx⟩ := isBk_iff.1 hb
    have hE := sEnd_bound r l (f + 1) hx
    have loop : ∀ (d : Nat) (p : Int), p + d = sEnd r l (f + 1) → 1 ≤ p → Ev (fun k => spec_PageOfLabel.l0 k s (sEnd r l (f + 1)) p f l r) (plGo f l r s d p) := by
      intro d
      induction d with
      | zero => intro p hp h1; exact Ev.step (f := fun _ => some (0, 4)) (fun k => by rw [spec_PageOfLabel.l0, if_neg (by omega)]) (Ev.now _)
      | succ d ih =>
        intro p hp h1
        refine Ev.step (f := fun k => (spec_l02Label.f k f l r p).bind fun t => if t.toList = s.toList then some (p, 0) else spec_PageOfLabel.l0 k s (sEnd r l (f + 1)) (p + 1) f l r) (fun k => by rw [spec_PageOfLabel.l0, if_pos (by omega), w64 (x := p + 1) (by omega) (by omega)]) ?_
        refine Ev.bind (specLabel_ev hb p (by omega) (by omega)) ?_
        rw [plGo]
        by_cases h : (lbl f l r p).toList = s.toList
        · simp only [if_pos h]; exact Ev.now _
        · simp only [if_neg h]; exact ih (p + 1) (by omega) (by omega)
    exact Ev.congr (fun k => rfl) (loop (sEnd r l (f + 1) - 1).toNat 1 (by omega) (by omega))
  · rw [if_neg hb]; exact Ev_ite_f hb (Ev.now _)
theorem implPageOf_ev (f : Int) (l : List Int) (r : Bool) (s : ByteArray) : Ev (fun k => impl_PageOfLabel.f k f l r s) (plOf f l r s) := by
  unfold impl_PageOfLabel.f plOf
  refine Ev.bind (implPageCount_ev f l r) ?_
  by_cases hb : isBk f l = true
  · simp only [if_pos hb]
    obtain ⟨f0, f1, l0, l1, hx⟩ := isBk_iff.1 hb
    have hE := sEnd_bound r l (f + 1) hx
    have loop : ∀ (d : Nat) (p : Int), p + d = sEnd r l (f + 1) → 1 ≤ p → Ev (fun k => impl_PageOfLabel.l0 k s (sEnd r l (f + 1) - 1) p f l r) (plGo f l r s d p) := by
      intro d
      induction d with
      | zero => intro p hp h1; exact Ev.step (f := fun _ => some (0, 4)) (fun k => by rw [impl_PageOfLabel.l0, if_neg (by omega)]) (Ev.now _)
      | succ d ih =>
        intro p hp h1
        refine Ev.step (f := fun k => (impl_labelOf.f k f l r p).bind fun t => if t.toList = s.toList then some (p, 0) else impl_PageOfLabel.l0 k s (sEnd r l (f + 1) - 1) (p + 1) f l r) (fun k => by rw [impl_PageOfLabel.l0, if_pos (by omega), w64 (x := p + 1) (by omega) (by omega)]) ?_
        refine Ev.bind (implLabel_ev hb p (by omega) (by omega)) ?_
        rw [plGo]
        by_cases h : (lbl f l r p).toList = s.toList
        · simp only [if_pos h]; exact Ev.now _
        · simp only [if_neg h]; exact ih (p + 1) (by omega) (by omega)
    exact Ev.congr (fun k => rfl) (loop (sEnd r l (f + 1) - 1).toNat 1 (by omega) (by omega))
  · simp only [if_neg hb]
    exact Ev_ite_f (by simp) (Ev.now _)
def symV : UInt8 → Nat := fun c => if c = 109 then 1000 else if c = 100 then 500 else if c = 99 then 100 else if c = 108 then 50 else if c = 120 then 10 else if c = 118 then 5 else 1
def decR : List UInt8 → Int
  | [] => 0
  | [a] => symV a
  | a :: b :: t => (if symV a < symV b then - (symV a : Int) else symV a) + decR (b :: t)
theorem dec_all : ∀ a : Fin 40, ∀ b : Fin 100, decR (romAll romTab ((100 * a.val + b.val : Nat) : Int) []) = ((100 * a.val + b.val : Nat) : Int) := by decide +kernel
theorem dec_roman {n : Int} (h : 1 ≤ n ∧ n ≤ 3999) : decR (romV n).toList = n := by
  obtain ⟨m, rfl⟩ := Int.eq_ofNat_of_zero_le (show 0 ≤ n by omega)
  unfold romV
  rw [if_pos h, mkb_list]
  have := dec_all ⟨m / 100, by omega⟩ ⟨m % 100, by omega⟩
  simp only [show 100 * (m / 100) + m % 100 = m by omega] at this
  exact this
def dval (l : List UInt8) : Nat := l.foldl (fun a c => 10 * a + (c.toNat - 48)) 0
theorem dval_app (l : List UInt8) (c : UInt8) : dval (l ++ [c]) = 10 * dval l + (c.toNat - 48) := by unfold dval; rw [List.foldl_append]; rfl
theorem dig_nat {d : Nat} (h : d < 10) : (UInt8.ofNat (48 + d)).toNat = 48 + d := by
  rw [UInt8.toNat_ofNat']
  omega
theorem dgs_val (n : Nat) : dval (dgs n) = n := by
  induction n using Nat.strongRecOn with
  | ind n ih =>
    by_cases h : n < 10
    · rw [dgs_one h, ← List.nil_append [UInt8.ofNat (48 + n)], dval_app, dig_nat h]
      simp [dval]
    · rw [dgs_more h, dval_app, ih (n / 10) (by omega), dig_nat (by omega)]
      omega
theorem dgs_dig (n : Nat) : ∀ c ∈ dgs n, 48 ≤ c.toNat ∧ c.toNat ≤ 57 := by
  induction n using Nat.strongRecOn with
  | ind n ih =>
    intro c hc
    by_cases h : n < 10
    · rw [dgs_one h, List.mem_singleton] at hc
      rw [hc, dig_nat h]; omega
    · rw [dgs_more h, List.mem_append, List.mem_singleton] at hc
      rcases hc with hc | hc
      · exact ih (n / 10) (by omega) c hc
      · rw [hc, dig_nat (by omega)]; omega
theorem rom_letters : ∀ a : Fin 50, 1 ≤ a.val → ∃ c ∈ romAll romTab ((a.val : Nat) : Int) [], 97 ≤ c.toNat := by decide +kernel
theorem lbl_inj {f : Int} {l : List Int} {r : Bool} (hb : isBk f l = true) {p q : Int} (hp : 1 ≤ p) (hp2 : p ≤ 100000) (hq : 1 ≤ q) (hq2 : q ≤ 100000) (h : (lbl f l r p).toList = (lbl f l r q).toList) : p = q := by
  obtain ⟨h2, h3, h4⟩ := first_facts (r := r) hb
  have mixed : ∀ {p q : Int}, 1 ≤ p → p < rd (sFirst r l (f + 1)) 0 → (romV p).toList = (mkb (dgs q.toNat)).toList → False := by
    intro p q hp hlt he
    obtain ⟨m, rfl⟩ := Int.eq_ofNat_of_zero_le (show 0 ≤ p by omega)
    obtain ⟨c, hc, hc2⟩ := rom_letters ⟨m, by omega⟩ (by simp only; omega)
    simp only at hc
    unfold romV at he
    rw [if_pos (by omega), mkb_list, mkb_list] at he
    rw [he] at hc
    have := dgs_dig _ c hc
    omega
  unfold lbl at h
  by_cases h5 : p < rd (sFirst r l (f + 1)) 0
  · rw [if_pos h5] at h
    by_cases h6 : q < rd (sFirst r l (f + 1)) 0
    · rw [if_pos h6] at h
      have e1 := dec_roman (n := p) ⟨hp, by omega⟩
      have e2 := dec_roman (n := q) ⟨hq, by omega⟩
      rw [h, e2] at e1
      exact e1.symm
    · rw [if_neg h6] at h
      exact (mixed hp h5 h).elim
  · rw [if_neg h5] at h
    by_cases h6 : q < rd (sFirst r l (f + 1)) 0
    · rw [if_pos h6] at h
      exact (mixed hq h6 h.symm).elim
    · rw [if_neg h6, mkb_list, mkb_list] at h
      have e1 := dgs_val (p - rd (sFirst r l (f + 1)) 0 + 1).toNat
      have e2 := dgs_val (q - rd (sFirst r l (f + 1)) 0 + 1).toNat
      rw [h, e2] at e1
      omega
theorem plGo_found (f : Int) (l : List Int) (r : Bool) (s : ByteArray) : ∀ (d : Nat) (p q : Int), plGo f l r s d p = (q, 0) → p ≤ q ∧ q < p + d ∧ (lbl f l r q).toList = s.toList
  | 0, p, q, h => by rw [plGo] at h; injection h with _ h; omega
  | d + 1, p, q, h => by
    rw [plGo] at h
    by_cases hc : (lbl f l r p).toList = s.toList
    · rw [if_pos hc] at h
      injection h with h _
      subst h
      exact ⟨by omega, by omega, hc⟩
    · rw [if_neg hc] at h
      obtain ⟨h1, h2, h3⟩ := plGo_found f l r s d (p + 1) q h
      exact ⟨by omega, by omega, h3⟩
theorem plGo_first (f : Int) (l : List Int) (r : Bool) (q : Int) (hinj : ∀ p, 1 ≤ p → p ≤ q → (lbl f l r p).toList = (lbl f l r q).toList → p = q) : ∀ (d : Nat) (p : Int), 1 ≤ p → p ≤ q → q < p + d → plGo f l r (lbl f l r q) d p = (q, 0)
  | 0, p, h1, h2, h3 => by omega
  | d + 1, p, h1, h2, h3 => by
    rw [plGo]
    by_cases hc : (lbl f l r p).toList = (lbl f l r q).toList
    · rw [if_pos hc, hinj p h1 h2 hc]
    · rw [if_neg hc]
      have : p ≠ q := fun e => hc (by rw [e])
      exact plGo_first f l r q hinj d (p + 1) (by omega) (by omega) (by omega)
def Src (c : List Int) (a s : Int) : Prop := c.length ≤ 4096 ∧ (∀ x ∈ c, 0 ≤ x ∧ x ≤ 255) ∧ 0 ≤ a ∧ a ≤ c.length ∧ 0 ≤ s ∧ s < 2147483647
theorem tmod_range {x m : Int} (h : 0 ≤ x) (hm : 0 < m) : 0 ≤ Int.tmod x m ∧ Int.tmod x m < m := ⟨Int.tmod_nonneg _ h, Int.tmod_lt_of_pos _ hm⟩
theorem rd_byte {c : List Int} (hc : ∀ x ∈ c, 0 ≤ x ∧ x ≤ 255) (i : Int) : 0 ≤ rd c i ∧ rd c i ≤ 255 := by
  unfold rd
  by_cases h : i.toNat < c.length
  · simp only [List.getD_eq_getElem?_getD, List.getElem?_eq_getElem h, Option.getD_some]
    exact hc _ (List.getElem_mem h)
  · simp only [List.getD_eq_getElem?_getD, List.getElem?_eq_none (Nat.le_of_not_lt h), Option.getD_none]
    omega
theorem next_ok {c : List Int} {a s : Int} (h : Src c a s) (n : Int) (hn : n ≤ 9000000000000000000) :
    ∃ r a' s', spec_l01Next.f c a s n = some (r, a', s') ∧ Src c a' s' ∧ 0 ≤ r ∧ (1 ≤ n → r < n) := by
  obtain ⟨h1, h2, h3, h4, h5, h6⟩ := h
  unfold spec_l01Next.f
  by_cases hn1 : n ≤ 1
  · rw [if_pos hn1]
    exact ⟨0, a, s, rfl, ⟨h1, h2, h3, h4, h5, h6⟩, by omega, by omega⟩
  · rw [if_neg hn1]
    have e1 : wrap64 (wrap64 (s * 48271) + 61) = s * 48271 + 61 := by rw [w64 (x := s * 48271) (by omega) (by omega), w64 (by omega) (by omega)]
    rw [e1]
    have m1 := tmod_range (x := s * 48271 + 61) (m := 2147483647) (by omega) (by omega)
    generalize Int.tmod (s * 48271 + 61) 2147483647 = s1 at *
    have d1 : 0 ≤ Int.tdiv s1 31 ∧ Int.tdiv s1 31 ≤ 2147483647 := by
      rw [Int.tdiv_eq_ediv_of_nonneg m1.1]; omega
    rw [w64 (x := Int.tdiv s1 31) (by omega) (by omega)]
    generalize Int.tdiv s1 31 = q at *
    by_cases ha : a < (c.length : Int)
    · have e2 : wrap64 (a + 1) = a + 1 := w64 (by omega) (by omega)
      have e3 : wrap64 (a + 1 - 1) = a := by rw [w64 (by omega) (by omega)]; omega
      have b1 := rd_byte h2 a
      rw [if_pos ha, if_pos h3, e2, e3, w64 (x := rd c a) (by omega) (by omega), w64 (x := q + rd c a) (by omega) (by omega)]
      have r1 := tmod_range (x := rd c a) (m := n) b1.1 (by omega)
      have r2 := tmod_range (x := q + rd c a) (m := n) (by omega) (by omega)
      have hs : Src c (a + 1) s1 := ⟨h1, h2, by omega, by omega, m1.1, m1.2⟩
      by_cases hb : n ≤ 256
      · rw [if_pos hb]
        by_cases hc : Int.tmod (a + 1) 2 = 0
        · rw [if_pos hc, if_pos h3, if_pos ha, if_neg (by omega)]
          exact ⟨_, _, _, rfl, hs, r1.1, fun _ => r1.2⟩
        · rw [if_neg hc, if_neg (by omega)]
          exact ⟨_, _, _, rfl, hs, r2.1, fun _ => r2.2⟩
      · rw [if_neg hb, if_neg (by omega)]
        exact ⟨_, _, _, rfl, hs, r2.1, fun _ => r2.2⟩
    · rw [if_neg ha, if_neg (by omega)]
      have r1 := tmod_range (x := q) (m := n) (by omega) (by omega)
      exact ⟨_, _, _, rfl, ⟨h1, h2, h3, h4, m1.1, m1.2⟩, r1.1, fun _ => r1.2⟩
theorem from_ok (c : List Int) (hc : c.length ≤ 4096) (hb : ∀ x ∈ c, 0 ≤ x ∧ x ≤ 255) : ∃ a s, Ev (fun k => spec_l01From.f k c) (c, a, s) ∧ Src c a s := by
  have loop : ∀ (d i : Nat), i + d = c.length → ∀ s : Int, 0 ≤ s → s < 2147483647 → ∃ s', 0 ≤ s' ∧ s' < 2147483647 ∧ Ev (fun k => spec_l01From.l0 k c (i : Int) c 0 s) (c, 0, s') := by
    intro d
    induction d with
    | zero =>
      intro i hi s h0 h1
      exact ⟨s, h0, h1, Ev.step (f := fun _ => some (c, 0, s)) (fun k => by rw [spec_l01From.l0, if_neg (by omega)]) (Ev.now _)⟩
    | succ d ih =>
      intro i hi s h0 h1
      by_cases h64 : i < 64
      · have b1 := rd_byte hb (i : Int)
        have e1 : wrap64 (wrap64 (s * 71) + wrap64 (rd c (i : Int))) = s * 71 + rd c (i : Int) := by
          rw [w64 (x := s * 71) (by omega) (by omega), w64 (x := rd c (i : Int)) (by omega) (by omega), w64 (by omega) (by omega)]
        have m1 := tmod_range (x := s * 71 + rd c (i : Int)) (m := 2147483647) (by omega) (by omega)
        obtain ⟨s', g0, g1, g2⟩ := ih (i + 1) (by omega) (Int.tmod (s * 71 + rd c (i : Int)) 2147483647) m1.1 m1.2
        refine ⟨s', g0, g1, Ev.step (fun k => ?_) g2⟩
        rw [spec_l01From.l0, if_pos (by omega), if_pos (by omega), if_pos (by omega), w64n i (by omega), e1]
      · exact ⟨s, h0, h1, Ev.step (f := fun _ => some (c, 0, s)) (fun k => by rw [spec_l01From.l0, if_pos (by omega), if_neg (by omega)]) (Ev.now _)⟩
  obtain ⟨s', g0, g1, g2⟩ := loop c.length 0 (by omega) 88007 (by omega) (by omega)
  exact ⟨0, s', Ev.congr (fun k => rfl) g2, hc, hb, by omega, by omega, g0, g1⟩
theorem pick_ok {c : List Int} {a s : Int} (h : Src c a s) (l : List Int) (h0 : 0 < l.length) (h1 : l.length ≤ 1000) :
    ∃ r a' s', spec_l01Pick.f c a s l = some (r, a', s') ∧ Src c a' s' ∧ r ∈ l := by
  obtain ⟨r, a', s', e, hs, h2, h3⟩ := next_ok h (l.length : Int) (by omega)
  have h4 := h3 (by omega)
  unfold spec_l01Pick.f
  rw [e]
  simp only [Option.bind_some]
  rw [if_pos h2, if_pos h4]
  refine ⟨_, _, _, rfl, hs, ?_⟩
  obtain ⟨m, rfl⟩ := Int.eq_ofNat_of_zero_le h2
  exact rd_mem (by omega)
def BkOk (f : Int) (l : List Int) : Prop := -1 ≤ f ∧ f ≤ 41 ∧ l.length ≤ 21 ∧ ∀ n ∈ l, 0 ≤ n ∧ n ≤ 201
theorem mem_set_ok {P : Int → Prop} {l : List Int} {i : Nat} {v : Int} (h : ∀ n ∈ l, P n) (hv : P v) : ∀ n ∈ l.set i v, P n := by
  intro n hn
  rcases List.mem_or_eq_of_mem_set hn with hn | rfl
  · exact h n hn
  · exact hv
theorem drawBook_ok {c : List Int} {a s : Int} (h0 : Src c a s) : ∃ f l r a' s', Ev (fun k => spec_l02Draw.f k c a s) (f, l, r, a', s') ∧ Src c a' s' ∧ BkOk f l := by
  obtain ⟨r1, a1, s1, e1, h1, p1, q1⟩ := next_ok h0 12 (by omega)
  obtain ⟨r2, a2, s2, e2, h2, p2, q2⟩ := next_ok h1 2 (by omega)
  obtain ⟨r3, a3, s3, e3, h3, p3, q3⟩ := next_ok h2 6 (by omega)
  have q1' := q1 (by omega)
  have q3' := q3 (by omega)
  have fill : ∀ (d i : Nat), ∀ (l : List Int) (r : Bool) (a s : Int), i + d = l.length → l.length ≤ 21 → (∀ n ∈ l, 0 ≤ n ∧ n ≤ 201) → ∃ l', Ev (fun k => spec_l02Draw.l1 k (i : Int) c a s r1 l r) (r1, l', r, a, s) ∧ l'.length ≤ 21 ∧ ∀ n ∈ l', 0 ≤ n ∧ n ≤ 201 := by
    intro d
    induction d with
    | zero =>
      intro i l r a s hi hl hx
      exact ⟨l, Ev.step (f := fun _ => some (r1, l, r, a, s)) (fun k => by rw [spec_l02Draw.l1, if_neg (by omega)]) (Ev.now _), hl, hx⟩
    | succ d ih =>
      intro i l r a s hi hl hx
      obtain ⟨l', g1, g2, g3⟩ := ih (i + 1) (l.set i 2) r a s (by rw [List.length_set]; omega) (by rw [List.length_set]; omega) (mem_set_ok hx (by omega))
      exact ⟨l', Ev.step (fun k => by rw [spec_l02Draw.l1, if_pos (by omega), if_pos (by omega), toNat_cast, w64n i (by omega)]) g1, g2, g3⟩
  have loop : ∀ (d : Nat) (l : List Int) (r : Bool) (a s : Int), Src c a s → 1 ≤ l.length + d → l.length + d ≤ 6 → (∀ n ∈ l, 0 ≤ n ∧ n ≤ 201) → ∃ f' l' r' a' s', Ev (fun k => spec_l02Draw.l0 k (d : Int) c a s r1 l r) (f', l', r', a', s') ∧ Src c a' s' ∧ BkOk f' l' := by
    intro d
    induction d with
    | zero =>
      intro l r a s hs hl1 hl6 hx
      obtain ⟨t1, b1, u1, k1, g1, _, _⟩ := next_ok hs 40 (by omega)
      by_cases c0 : t1 = 0
      · obtain ⟨t2, b2, u2, k2, g2, m2⟩ := pick_ok g1 [(-1), 40, 41] (by simp) (by simp)
        have hm : -1 ≤ t2 ∧ t2 ≤ 41 := by simp at m2; omega
        exact ⟨t2, l, r, b2, u2, Ev.step (f := fun _ => some (t2, l, r, b2, u2)) (fun k => by rw [spec_l02Draw.l0, if_neg (by omega), k1]; simp only [Option.bind_some]; rw [if_pos c0, k2]; rfl) (Ev.now _), g2, hm.1, hm.2, by omega, hx⟩
      by_cases c1 : t1 = 1
      · obtain ⟨t2, b2, u2, k2, g2, m2⟩ := pick_ok g1 [0, 200, 201] (by simp) (by simp)
        have hm : 0 ≤ t2 ∧ t2 ≤ 201 := by simp at m2; omega
        exact ⟨r1, l.set 0 t2, r, b2, u2, Ev.step (f := fun _ => some (r1, l.set 0 t2, r, b2, u2)) (fun k => by rw [spec_l02Draw.l0, if_neg (by omega), k1]; simp only [Option.bind_some]; rw [if_neg c0, if_pos c1, k2]; simp only [Option.bind_some]; rw [if_pos (by omega)]; rfl) (Ev.now _), g2, by omega, by omega, by rw [List.length_set]; omega, mem_set_ok hx hm⟩
      by_cases c2 : t1 = 2
      · obtain ⟨t2, b2, u2, k2, g2, m2⟩ := pick_ok g1 [0, 20, 21] (by simp) (by simp)
        have hm : 0 ≤ t2 ∧ t2 ≤ 21 := by simp at m2; omega
        obtain ⟨l', x1, x2, x3⟩ := fill t2.toNat 0 (List.replicate t2.toNat 0) r b2 u2 (by simp) (by simp; omega) (fun n hn => by rw [List.mem_replicate] at hn; omega)
        exact ⟨r1, l', r, b2, u2, Ev.step (f := fun k => spec_l02Draw.l1 k ((0 : Nat) : Int) c b2 u2 r1 (List.replicate t2.toNat 0) r) (fun k => by rw [spec_l02Draw.l0, if_neg (by omega), k1]; simp only [Option.bind_some]; rw [if_neg c0, if_neg c1, if_pos c2, k2]; simp only [Option.bind_some]; rw [if_pos hm.1, if_pos (by omega)]; rfl) x1, g2, by omega, by omega, x2, x3⟩
      · exact ⟨r1, l, r, b1, u1, Ev.step (f := fun _ => some (r1, l, r, b1, u1)) (fun k => by rw [spec_l02Draw.l0, if_neg (by omega), k1]; simp only [Option.bind_some]; rw [if_neg c0, if_neg c1, if_neg c2]) (Ev.now _), g1, by omega, by omega, by omega, hx⟩
    | succ d ih =>
      intro l r a s hs hl1 hl6 hx
      obtain ⟨t1, b1, u1, k1, g1, y0, y1⟩ := next_ok hs 20 (by omega)
      have y2 := y1 (by omega)
      obtain ⟨f', l', r', a', s', z1, z2, z3⟩ := ih (l ++ [1 + t1]) r b1 u1 g1 (by rw [List.length_append, List.length_singleton]; omega) (by rw [List.length_append, List.length_singleton]; omega) (fun n hn => by
        rw [List.mem_append, List.mem_singleton] at hn
        rcases hn with hn | rfl
        · exact hx n hn
        · omega)
      refine ⟨f', l', r', a', s', Ev.step (fun k => ?_) z1, z2, z3⟩
      have ed : wrap64 (((d + 1 : Nat) : Int) - 1) = (d : Int) := by rw [w64 (by omega) (by omega)]; omega
      rw [spec_l02Draw.l0, if_pos (by omega), k1]
      simp only [Option.bind_some]
      rw [if_pos (by omega), ed, w64 (x := 1 + t1) (by omega) (by omega)]
  obtain ⟨m, hm⟩ := Int.eq_ofNat_of_zero_le (show 0 ≤ 1 + r3 by omega)
  obtain ⟨f', l', r', a', s', z1, z2, z3⟩ := loop m [] (r2 == 0) a3 s3 h3 (by simp; omega) (by simp; omega) (fun n hn => by simp at hn)
  refine ⟨f', l', r', a', s', Ev.congr (fun k => ?_) z1, z2, z3⟩
  unfold spec_l02Draw.f
  simp only [e1, e2, e3, Option.bind_some]
  rw [w64 (x := 1 + r3) (by omega) (by omega), hm]
theorem drawPage_ok {c : List Int} {a s : Int} (h0 : Src c a s) : ∃ f l r p a' s', Ev (fun k => spec_l02DrawPage.f k c a s) (f, l, r, p, a', s') ∧ Src c a' s' ∧ BkOk f l := by
  obtain ⟨f, l, r, a1, s1, hd, h1, hb⟩ := drawBook_ok h0
  have hst := specStarts_gen f l r hb.1 hb.2.1 hb.2.2.1 hb.2.2.2
  have hE := sEnd_bound0 r l (f + 1) hb.2.2.2
  have hl := hb.2.2.1
  have hf := hb.1
  have hf2 := hb.2.1
  generalize sEnd r l (f + 1) = E at *
  obtain ⟨r2, a2, s2, e2, h2, _, _⟩ := next_ok h1 16 (by omega)
  unfold spec_l02DrawPage.f
  by_cases h : r2 = 0
  · obtain ⟨r3, a3, s3, e3, h3, _⟩ := pick_ok h2 [0, (-1), wrap64 (E - 1), E] (by simp) (by simp)
    refine ⟨f, l, r, r3, a3, s3, Ev.bind hd (Ev.bind hst ?_), h3, hb⟩
    simp only [e2, Option.bind_some, if_pos h, e3]
    exact Ev.now _
  · obtain ⟨r3, a3, s3, e3, h3, _⟩ := next_ok h2 (wrap64 (E - 1)) (by rw [w64 (by omega) (by omega)]; omega)
    refine ⟨f, l, r, wrap64 (1 + r3), a3, s3, Ev.bind hd (Ev.bind hst ?_), h3, hb⟩
    simp only [e2, Option.bind_some, if_neg h, e3]
    exact Ev.now _
theorem damage_ok {c : List Int} {a s : Int} (h : Src c a s) (t : ByteArray) (ht : t.size ≤ 1000000) : ∃ r a' s', spec_l01Damage.f c a s t = some (r, a', s') ∧ Src c a' s' := by
  obtain ⟨k, a1, s1, e1, h1, k0, k1⟩ := next_ok h ((t.size : Int) + 1) (by omega)
  have k2 := k1 (by omega)
  obtain ⟨m, a2, s2, e2, h2, m0, _⟩ := next_ok h1 8 (by omega)
  obtain ⟨j, a3, s3, e3, h3, j0, j1⟩ := next_ok h2 8 (by omega)
  have j2 := j1 (by omega)
  have hx : (rdOf ByteArray.empty ([(⟨#[48]⟩ : ByteArray), (⟨#[49]⟩ : ByteArray), (⟨#[32]⟩ : ByteArray), (⟨#[45]⟩ : ByteArray), (⟨#[46]⟩ : ByteArray), (⟨#[44]⟩ : ByteArray), (⟨#[10]⟩ : ByteArray), (⟨#[120]⟩ : ByteArray)] : List ByteArray) j).size ≤ 1 := by
    obtain ⟨i, rfl⟩ := Int.eq_ofNat_of_zero_le j0
    have hi : i < 8 := by omega
    match i, hi with
    | 0, _ | 1, _ | 2, _ | 3, _ | 4, _ | 5, _ | 6, _ | 7, _ => exact Nat.le_refl _
    | n + 8, z => omega
  unfold spec_l01Damage.f
  rw [w64 (x := (t.size : Int) + 1) (by omega) (by omega), e1]
  simp only [Option.bind_some, e2]
  by_cases m1 : m = 0
  · rw [if_pos m1, if_pos k0, if_pos (by omega)]
    exact ⟨_, _, _, rfl, h2⟩
  · rw [if_neg m1]
    by_cases m2 : m = 1
    · rw [if_pos m2, if_pos k0, if_pos (by omega), e3]
      simp only [Option.bind_some]
      rw [if_pos j0, if_pos (by simp; omega), if_pos (by rw [ByteArray.size_extract]; omega), if_pos (by rw [ByteArray.size_append, ByteArray.size_extract, ByteArray.size_extract]; omega)]
      exact ⟨_, _, _, rfl, h3⟩
    · rw [if_neg m2]
      by_cases m3 : m = 2
      · rw [if_pos m3]
        by_cases hk : k < (t.size : Int)
        · rw [if_pos hk]
          have ew : wrap64 (k + 1) = k + 1 := w64 (by omega) (by omega)
          simp only [ew]
          first
            | (rw [if_pos k0, if_pos (by omega), if_pos (by omega), if_pos (by omega), if_pos (by rw [ByteArray.size_extract, ByteArray.size_extract]; omega)]; exact ⟨_, _, _, rfl, h2⟩)
            | (repeat (first | rw [if_pos (by omega)] | rw [if_pos (by rw [ByteArray.size_extract, ByteArray.size_extract]; omega)])); exact ⟨_, _, _, rfl, h2⟩
        · rw [if_neg hk]; exact ⟨_, _, _, rfl, h2⟩
      · rw [if_neg m3]; exact ⟨_, _, _, rfl, h2⟩
theorem lbl_size (f : Int) (l : List Int) (r : Bool) (p : Int) (h : p ≤ 100000) (h0 : 0 ≤ rd (sFirst r l (f + 1)) 0) : (lbl f l r p).size ≤ 200000 := by
  unfold lbl
  split
  · rename_i hp
    unfold romV
    split
    · rename_i h2
      obtain ⟨m, rfl⟩ := Int.eq_ofNat_of_zero_le (show 0 ≤ p by omega)
      rw [mkb_size, rom_all m (by omega), List.length_append, List.length_append, List.length_append]
      have l1 := dig_len [109] [] [] (by simp) (by simp) (by simp) (m / 1000)
      have l2 := dig_len [99] [100] [109] (by simp) (by simp) (by simp) (m / 100 % 10)
      have l3 := dig_len [120] [108] [99] (by simp) (by simp) (by simp) (m / 10 % 10)
      have l4 := dig_len [105] [118] [120] (by simp) (by simp) (by simp) (m % 10)
      omega
    · simp [mkb_size]
  · rw [mkb_size]
    have := dgs_len (p - rd (sFirst r l (f + 1)) 0 + 1).toNat
    omega
theorem lb_size (f : Int) (l : List Int) (r : Bool) (p : Int) : (lbOf f l r p).1.size ≤ 200000 := by
  unfold lbOf
  split
  · rename_i h
    obtain ⟨hb, h1, h2⟩ := cd_bound h
    exact lbl_size f l r p h2 (first_facts (r := r) hb).2.1
  · simp [mkb_size]
theorem drawLab_ok (c : List Int) (hc : c.length ≤ 4096) (hb : ∀ x ∈ c, 0 ≤ x ∧ x ≤ 255) : ∃ f l r p, Ev (fun k => spec_DrawLabelOf.f k c) (f, l, r, p) ∧ BkOk f l := by
  obtain ⟨a, s, hf, h0⟩ := from_ok c hc hb
  obtain ⟨f, l, r, p, a', s', h1, h2, h3⟩ := drawPage_ok h0
  exact ⟨f, l, r, p, by unfold spec_DrawLabelOf.f; exact Ev.bind hf (Ev.bind h1 (Ev.now _)), h3⟩
theorem drawPol_ok (c : List Int) (hc : c.length ≤ 4096) (hb : ∀ x ∈ c, 0 ≤ x ∧ x ≤ 255) : ∃ f l r t, Ev (fun k => spec_DrawPageOfLabel.f k c) (f, l, r, t) ∧ BkOk f l := by
  obtain ⟨a, s, hf, h0⟩ := from_ok c hc hb
  obtain ⟨f, l, r, p, a', s', h1, h2, h3⟩ := drawPage_ok h0
  have hlen : l.length ≤ 21 := h3.2.2.1
  have hz := lb_size f l r p
  have hs := specLabelOf_ev f l r p (by omega)
  generalize lbOf f l r p = v at hz hs
  obtain ⟨m, a2, s2, e2, h4, m0, _⟩ := next_ok h2 4 (by omega)
  by_cases hm : m = 0
  · obtain ⟨t, a3, s3, e3, h5⟩ := damage_ok h4 v.1 (by omega)
    refine ⟨f, l, r, t, ?_, h3⟩
    unfold spec_DrawPageOfLabel.f
    refine Ev.bind hf (Ev.bind h1 (Ev.bind hs ?_))
    simp only [e2, Option.bind_some, if_pos hm, e3]
    exact Ev.now _
  · refine ⟨f, l, r, v.1, ?_, h3⟩
    unfold spec_DrawPageOfLabel.f
    refine Ev.bind hf (Ev.bind h1 (Ev.bind hs ?_))
    simp only [e2, Option.bind_some, if_neg hm]
    exact Ev.now _
theorem FnLabels : laws_FnLabels.Pure := by
  intro c hc1 hc2 hw
  apply Ev.rounds
  unfold laws_FnLabels.f laws_big.f
  simp only [Option.bind_some, decide_eq_true_eq]
  by_cases hb : (c.length : Int) > 4096
  · exact Ev_ite_t hb (Ev.now _)
  · refine Ev_ite_f hb ?_
    have hcb := fun x hx => wf8 (hw x hx)
    obtain ⟨f, l, r, p, hd, hbk⟩ := drawLab_ok c (by omega) hcb
    obtain ⟨f2, l2, r2, s, hd2, hbk2⟩ := drawPol_ok c (by omega) hcb
    have hlen : l.length ≤ 21 := hbk.2.2.1
    have hlen2 : l2.length ≤ 21 := hbk2.2.2.1
    refine Ev.bind hd (Ev.bind (implLabelOf_ev f l r p) (Ev.bind (specLabelOf_ev f l r p (by omega)) (Ev.bind hd2 (Ev.bind (implPageOf_ev f2 l2 r2 s) (Ev.bind (specPageOf_ev f2 l2 r2 s (by omega)) ?_)))))
    refine Ev_ite_t rfl (Ev_ite_t rfl (Ev_ite_t rfl ?_))
    refine Ev.step (fun k => by rw [laws_FnLabels.j0, if_neg (by simp)]) ?_
    simp only
    have last : (lbOf f l r p).2 = 0 → Ev (fun k => (impl_PageOfLabel.f k f l r (lbOf f l r p).1).bind fun bt => if bt.2 = 0 then some (bt.1 == p) else none) true := by
      intro h0
      have hcd : cdOf f l r p = 0 := by
        unfold lbOf at h0
        by_cases hc : cdOf f l r p = 0
        · exact hc
        · rw [if_neg hc] at h0; exact absurd h0 hc
      obtain ⟨hbb, h1, h2⟩ := cdOf_book hcd
      obtain ⟨_, _, h3⟩ := cd_bound hcd
      obtain ⟨f0, f1, l0, l1, hx⟩ := isBk_iff.1 hbb
      have hE := sEnd_bound r l (f + 1) hx
      have hv : (lbOf f l r p).1 = lbl f l r p := by unfold lbOf; rw [if_pos hcd]
      rw [hv]
      refine Ev.bind (implPageOf_ev f l r _) ?_
      have hp : plOf f l r (lbl f l r p) = (p, 0) := by
        unfold plOf
        rw [if_pos hbb]
        exact plGo_first f l r p (fun q hq1 hq2 he => lbl_inj hbb hq1 (by omega) h1 h3 he) _ 1 (by omega) h1 (by omega)
      rw [hp]
      exact Ev_ite_t rfl (by simp only [beq_self_eq_true]; exact Ev.now _)
    by_cases h1 : (plOf f2 l2 r2 s).2 = 0
    · refine Ev_ite_t h1 ?_
      have hbb : isBk f2 l2 = true := by
        unfold plOf at h1
        by_cases hc : isBk f2 l2 = true
        · exact hc
        · rw [if_neg hc] at h1; simp at h1
      have hpl : plOf f2 l2 r2 s = plGo f2 l2 r2 s (sEnd r2 l2 (f2 + 1) - 1).toNat 1 := by unfold plOf; rw [if_pos hbb]
      obtain ⟨f0, f1, l0, l1, hx⟩ := isBk_iff.1 hbb
      have hE := sEnd_bound r2 l2 (f2 + 1) hx
      obtain ⟨g1, g2, g3⟩ := plGo_found f2 l2 r2 s (sEnd r2 l2 (f2 + 1) - 1).toNat 1 (plOf f2 l2 r2 s).1 (by rw [← hpl]; exact Prod.ext rfl h1)
      have hcd : cdOf f2 l2 r2 (plOf f2 l2 r2 s).1 = 0 := by
        unfold cdOf
        rw [if_pos hbb, if_pos ⟨by omega, by omega⟩]
      have hv : lbOf f2 l2 r2 (plOf f2 l2 r2 s).1 = (lbl f2 l2 r2 (plOf f2 l2 r2 s).1, 0) := by unfold lbOf; rw [if_pos hcd]
      refine Ev.bind (implLabelOf_ev f2 l2 r2 _) ?_
      rw [hv]
      refine Ev_ite_t rfl ?_
      refine Ev.step (fun k => by rw [laws_FnLabels.j1, if_neg (by simp [g3])]) ?_
      by_cases h0 : (lbOf f l r p).2 = 0
      · exact Ev_ite_t h0 (last h0)
      · exact Ev_ite_f h0 (Ev.now _)
    · refine Ev_ite_f h1 ?_
      by_cases h0 : (lbOf f l r p).2 = 0
      · exact Ev_ite_t h0 (last h0)
      · exact Ev_ite_f h0 (Ev.now _)

end Go.Proofs.YtgnopkapkodhhaaDoor.Pure
