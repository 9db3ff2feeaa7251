/- The pure statement of FnExactChapterOf: for every input that the row lets in, the law's Lean function answers true; no further condition. -/
import Derived.Test.YtcgjeglkgdakcaaQFnExactChapterOfx3
set_option linter.unusedVariables false
set_option linter.unusedSimpArgs false
namespace Go.Proofs.Ytcgjeglkgdakcaa.Pure
open Go.RowKit Go.Proofs.Ytcgjeglkgdakcaa.QFnExactChapterOf Go.Proofs.YtcgjeglkgdakcaaW.PrintWords Go.Proofs.YtcgjeglkgdakcaaW.PrintLast

theorem w64 {x : Int} (h0 : -9223372036854775808 ≤ x) (h1 : x ≤ 9223372036854775807) : wrap64 x = x := by unfold wrap64; omega
theorem wz : wrap64 0 = 0 := w64 (by omega) (by omega)
theorem w64_range (x : Int) : -9223372036854775808 ≤ wrap64 x ∧ wrap64 x ≤ 9223372036854775807 := by unfold wrap64; omega
theorem wf64 {x : Int} (h : (Lit.int .i64 x).wf = true) : -9223372036854775808 ≤ x ∧ x ≤ 9223372036854775807 := by
  have h' : (decide (IntKind.i64.min ≤ x) && decide (x ≤ IntKind.i64.max)) = true := h
  simp only [Bool.and_eq_true, decide_eq_true_eq] at h'
  exact h'
theorem wf8 {x : Int} (h : (Lit.int .u8 x).wf = true) : 0 ≤ x ∧ x ≤ 255 := by
  have h' : (decide (IntKind.u8.min ≤ x) && decide (x ≤ IntKind.u8.max)) = true := h
  simp only [Bool.and_eq_true, decide_eq_true_eq] at h'
  exact h'
theorem rd_get {xs : List Int} {i : Nat} (h : i < xs.length) : rd xs (i : Int) = xs[i] := by
  simp [rd, List.getD_eq_getElem?_getD, h]
theorem rd_nat (xs : List Int) (i : Nat) : rd xs (i : Int) = xs.getD i 0 := by simp [rd]
theorem rd_mem {xs : List Int} {i : Nat} (h : i < xs.length) : rd xs (i : Int) ∈ xs := by rw [rd_get h]; exact List.getElem_mem h
theorem rd_ext {xs ys : List Int} (hl : xs.length = ys.length) (h : ∀ i : Nat, i < xs.length → rd xs (i : Int) = rd ys (i : Int)) : xs = ys := by
  apply List.ext_getElem hl
  intro i h1 h2
  have := h i h1
  rwa [rd_get h1, rd_get h2] at this
theorem rd_set {xs : List Int} {i j : Nat} {v : Int} (hi : i < xs.length) : rd (xs.set i v) (j : Int) = if i = j then v else rd xs (j : Int) := by
  simp only [rd_nat, List.getD_eq_getElem?_getD, List.getElem?_set]
  by_cases h : i = j
  · subst h; simp [hi]
  · simp [h]
theorem rd_append_left {xs ys : List Int} {j : Nat} (h : j < xs.length) : rd (xs ++ ys) (j : Int) = rd xs (j : Int) := by
  simp only [rd_nat, List.getD_eq_getElem?_getD, List.getElem?_append_left h]
theorem rd_append_at {xs : List Int} {v : Int} : rd (xs ++ [v]) (xs.length : Int) = v := by
  simp [rd_nat, List.getD_eq_getElem?_getD]
theorem rd_take {xs : List Int} {i j : Nat} (h : j < i) : rd (xs.take i) (j : Int) = rd xs (j : Int) := by
  simp [rd_nat, List.getD_eq_getElem?_getD, List.getElem?_take, h]
theorem rd_drop {xs : List Int} {i j : Nat} : rd (xs.drop i) (j : Int) = rd xs ((i + j : Nat) : Int) := by
  simp only [rd_nat, List.getD_eq_getElem?_getD, List.getElem?_drop]
theorem toNat_cast (i : Nat) : ((i : Nat) : Int).toNat = i := Int.toNat_natCast i
theorem drop_cons {xs : List Int} {i : Nat} (h : i < xs.length) : xs.drop i = rd xs (i : Int) :: xs.drop (i + 1) := by
  rw [rd_get h]; exact List.drop_eq_getElem_cons h
theorem Ev_ite_t {α : Type} {c : Prop} [Decidable c] {f g : Nat → Option α} {r : α} (h : c) (k : Ev f r) : Ev (fun n => if c then f n else g n) r :=
  Ev.congr (fun _ => if_pos h) k
theorem Ev_ite_f {α : Type} {c : Prop} [Decidable c] {f g : Nat → Option α} {r : α} (h : ¬ c) (k : Ev g r) : Ev (fun n => if c then f n else g n) r :=
  Ev.congr (fun _ => if_neg h) k
theorem w64n (i : Nat) (h : i < 9223372036854775807) : wrap64 ((i : Int) + 1) = ((i + 1 : Nat) : Int) := by
  rw [w64 (by omega) (by omega)]; rfl
theorem wrap_add_wrap (a b : Int) : wrap64 (wrap64 a + b) = wrap64 (a + b) := by unfold wrap64; omega
theorem wrap_add_wrap' (a b : Int) : wrap64 (a + wrap64 b) = wrap64 (a + b) := by unfold wrap64; omega
theorem l01In_eq (n a b : Int) : spec_l01In.f n a b = some (decide (a ≤ n ∧ n ≤ b)) := by
  unfold spec_l01In.f
  by_cases h : n ≥ a
  · rw [if_pos h]; simp [show a ≤ n from h]
  · rw [if_neg h]; simp [show ¬ a ≤ n from h]
theorem inRange_eq (n a b : Int) : impl_inRange.f n a b = some (decide (a ≤ n ∧ n ≤ b)) := by
  unfold impl_inRange.f
  by_cases h : a ≤ n
  · rw [if_pos h]; simp [h]
  · rw [if_neg h]; simp [h]
theorem toInt64S_ev (l : List Int) (hl : l.length ≤ 35184372088832) : Ev (fun k => laws_toInt64S.f k l) l := by
  have loop : ∀ (d i : Nat), i + d = l.length → ∀ x : List Int, x.length = l.length → (∀ j : Nat, j < i → rd x (j : Int) = rd l (j : Int)) → Ev (fun k => laws_toInt64S.l0 k l x (i : Int)) l := by
    intro d
    induction d with
    | zero =>
      intro i hi x hx h
      obtain rfl : x = l := rd_ext hx (fun j hj => h j (by omega))
      refine Ev.step (f := fun _ => some x) (fun k => by rw [laws_toInt64S.l0, if_neg (by omega)]) (Ev.now _)
    | succ d ih =>
      intro i hi x hx h
      refine Ev.step (f := fun k => laws_toInt64S.l0 k l (x.set i (rd l (i : Int))) ((i + 1 : Nat) : Int)) (fun k => by rw [laws_toInt64S.l0, if_pos (by omega), if_pos (by omega), if_pos (by omega), w64n i (by omega), toNat_cast]) ?_
      refine ih (i + 1) (by omega) _ (by rw [List.length_set]; exact hx) (fun j hj => ?_)
      rw [rd_set (by omega)]
      by_cases e : i = j
      · rw [if_pos e, e]
      · rw [if_neg e]; exact h j (by omega)
  refine Ev.congr (f := fun k => laws_toInt64S.l0 k l (List.replicate l.length 0) ((0 : Nat) : Int)) (fun k => ?_) (loop l.length 0 (by omega) _ (by simp) (fun j hj => by omega))
  simp only [laws_toInt64S.f, toNat_cast]
  rw [if_pos (by omega), if_pos (by omega)]
  rfl
theorem eqInt64S_ev (l : List Int) (hl : l.length ≤ 35184372088832) : Ev (fun k => laws_eqInt64S.f k l l) true := by
  have loop : ∀ (d i : Nat), i + d = l.length → Ev (fun k => laws_eqInt64S.l0 k l l (i : Int)) true := by
    intro d
    induction d with
    | zero =>
      intro i hi
      refine Ev.step (f := fun _ => some true) (fun k => by rw [laws_eqInt64S.l0, if_neg (by omega)]) (Ev.now _)
    | succ d ih =>
      intro i hi
      refine Ev.step (f := fun k => laws_eqInt64S.l0 k l l ((i + 1 : Nat) : Int)) (fun k => by rw [laws_eqInt64S.l0, if_pos (by omega), if_pos (by omega), if_pos (by omega), if_pos rfl, w64n i (by omega)]) ?_
      exact ih (i + 1) (by omega)
  refine Ev.congr (f := fun k => laws_eqInt64S.l0 k l l ((0 : Nat) : Int)) (fun k => ?_) (loop l.length 0 (by omega))
  simp only [laws_eqInt64S.f, if_true]
  rfl
theorem maxLen_eq : maxLen = 9223372036854775807 := by decide
theorem szBook_eq (f : Int) (l : List Int) (r : Bool) (hl : l.length ≤ maxLen) : laws_szBook.f f l r 1048576 = some (if (l.length : Int) > 1048576 then (-1 : Int) else 1048576 - (l.length : Int)) := by
  rw [maxLen_eq] at hl
  unfold laws_szBook.f laws_szInt64S.f
  rw [w64 (x := 1048576 - (l.length : Int)) (by omega) (by omega)]
  by_cases h : (l.length : Int) > 1048576
  · rw [if_pos (by omega), if_pos h]; rfl
  · rw [if_neg (by omega), if_neg h]
    simp only [Option.bind_some]
    rw [if_neg (by omega)]
theorem toBook_ev (f : Int) (l : List Int) (r : Bool) (hl : l.length ≤ 35184372088832) : Ev (fun k => laws_toBook.f k f l r) (f, l, r) := by
  unfold laws_toBook.f
  exact Ev.bind (toInt64S_ev l hl) (Ev.now _)
theorem eqBook_ev (f : Int) (l : List Int) (r : Bool) (hl : l.length ≤ 35184372088832) : Ev (fun k => laws_eqBook.f k f l r f l r) true := by
  unfold laws_eqBook.f
  exact Ev_ite_t rfl (Ev.bind (eqInt64S_ev l hl) (Ev_ite_t rfl (Ev_ite_f (by simp) (Ev.now _))))
def isBk (f : Int) (l : List Int) : Bool := decide (0 ≤ f ∧ f ≤ 40 ∧ 1 ≤ l.length ∧ l.length ≤ 20 ∧ ∀ x ∈ l, 1 ≤ x ∧ x ≤ 200)
theorem isBk_iff {f : Int} {l : List Int} : isBk f l = true ↔ 0 ≤ f ∧ f ≤ 40 ∧ 1 ≤ l.length ∧ l.length ≤ 20 ∧ ∀ x ∈ l, 1 ≤ x ∧ x ≤ 200 := by unfold isBk; exact decide_eq_true_iff
theorem within_ev (l : List Int) (m lo hi : Int) (hl : l.length ≤ 35184372088832) (b : Bool) (hb : b = true ↔ (l.length : Int) ≤ m ∧ ∀ x ∈ l, lo ≤ x ∧ x ≤ hi) : Ev (fun k => spec_l01Within.f k l m lo hi) b := by
  have loop : ∀ (d i : Nat), i + d = l.length → ∀ b : Bool, (b = true ↔ (l.length : Int) ≤ m ∧ ∀ x ∈ l.drop i, lo ≤ x ∧ x ≤ hi) → Ev (fun k => spec_l01Within.l0 k l m lo hi (i : Int)) b := by
    intro d
    induction d with
    | zero =>
      intro i hi' b hb
      have e : b = decide ((l.length : Int) ≤ m) := by
        rw [Bool.eq_iff_iff, hb, decide_eq_true_iff, show l.drop i = [] from List.drop_of_length_le (by omega)]
        exact ⟨fun h => h.1, fun h => ⟨h, fun x hx => by simp at hx⟩⟩
      rw [e]
      exact Ev.step (f := fun _ => some (decide ((l.length : Int) ≤ m))) (fun k => by rw [spec_l01Within.l0, if_neg (by omega)]) (Ev.now _)
    | succ d ih =>
      intro i hi' b hb
      refine Ev.step (f := fun k => if decide (lo ≤ rd l (i : Int) ∧ rd l (i : Int) ≤ hi) = true then spec_l01Within.l0 k l m lo hi ((i + 1 : Nat) : Int) else some false) (fun k => by rw [spec_l01Within.l0, if_pos (by omega), if_pos (by omega), l01In_eq, w64n i (by omega)]; rfl) ?_
      rw [drop_cons (xs := l) (i := i) (by omega)] at hb
      simp only [List.mem_cons, forall_eq_or_imp] at hb
      by_cases h : lo ≤ rd l (i : Int) ∧ rd l (i : Int) ≤ hi
      · refine Ev_ite_t (decide_eq_true h) (ih (i + 1) (by omega) b ?_)
        rw [hb]
        exact ⟨fun x => ⟨x.1, x.2.2⟩, fun x => ⟨x.1, h, x.2⟩⟩
      · have e : b = false := by
          rw [Bool.eq_false_iff]; intro hbt
          exact h (hb.1 hbt).2.1
        rw [e]
        exact Ev_ite_f (by rw [decide_eq_true_iff]; exact h) (Ev.now _)
  have := loop l.length 0 (by omega) b (by rw [List.drop_zero]; exact hb)
  exact Ev.congr (fun k => rfl) this
theorem specIsBook_ev (f : Int) (l : List Int) (r : Bool) (hl : l.length ≤ 35184372088832) : Ev (fun k => spec_IsBook.f k f l r) (isBk f l) := by
  unfold spec_IsBook.f
  simp only [l01In_eq, Option.bind_some, decide_eq_true_eq]
  by_cases h1 : 0 ≤ f ∧ f ≤ 40
  · refine Ev_ite_t h1 ?_
    by_cases h2 : (l.length : Int) > 0
    · refine Ev_ite_t h2 (Ev.bind (within_ev l 20 1 200 hl (isBk f l) ?_) (Ev.now _))
      rw [isBk_iff]
      constructor
      · rintro ⟨_, _, _, a, b⟩; exact ⟨by omega, b⟩
      · rintro ⟨a, b⟩; exact ⟨h1.1, h1.2, by omega, by omega, b⟩
    · have e : isBk f l = false := by rw [Bool.eq_false_iff]; intro h; have := isBk_iff.1 h; omega
      rw [e]
      exact Ev_ite_f h2 (Ev.now _)
  · have e : isBk f l = false := by rw [Bool.eq_false_iff]; intro h; have := isBk_iff.1 h; omega
    rw [e]
    exact Ev_ite_f h1 (Ev.now _)
theorem allIn_eq (l : List Int) (lo hi : Int) : impl_allIn.f l lo hi = some (decide (∀ x ∈ l, lo ≤ x ∧ x ≤ hi)) := by
  unfold impl_allIn.f
  congr 1
  rw [Bool.eq_iff_iff, decide_eq_true_iff, Bool.not_eq_true', List.any_eq_false]
  unfold allIn_out
  constructor
  · intro h x hx; simpa using h x hx
  · intro h x hx; simpa using h x hx
theorem implIsBook_eq (f : Int) (l : List Int) (r : Bool) : impl_IsBook.f f l r = some (isBk f l) := by
  unfold impl_IsBook.f impl_length_int64.f
  simp only [inRange_eq, allIn_eq, Option.bind_some, decide_eq_true_eq]
  by_cases h1 : 0 ≤ f ∧ f ≤ 40
  · rw [if_pos h1]
    by_cases h2 : 1 ≤ (l.length : Int) ∧ (l.length : Int) ≤ 20
    · rw [if_pos h2]
      unfold isBk
      congr 1
      rw [decide_eq_decide]
      constructor
      · intro b; exact ⟨h1.1, h1.2, by omega, by omega, b⟩
      · rintro ⟨_, _, _, _, b⟩; exact b
    · rw [if_neg h2]
      congr 1
      symm
      rw [Bool.eq_false_iff]; intro h; have := isBk_iff.1 h; omega
  · rw [if_neg h1]
    congr 1
    symm
    rw [Bool.eq_false_iff]; intro h; have := isBk_iff.1 h; omega
def st (r : Bool) (x : Int) : Int := if r = true ∧ Int.tmod x 2 = 0 then x + 1 else x
def sFirst (r : Bool) : List Int → Int → List Int
  | [], _ => []
  | n :: t, x => st r x :: sFirst r t (st r x + n)
def sBlank (r : Bool) : List Int → Int → List Int
  | [], _ => []
  | n :: t, x => (if r = true ∧ Int.tmod x 2 = 0 then [x] else []) ++ sBlank r t (st r x + n)
def sEnd (r : Bool) : List Int → Int → Int
  | [], x => x
  | n :: t, x => sEnd r t (st r x + n)
theorem st_ge (r : Bool) (x : Int) : x ≤ st r x ∧ st r x ≤ x + 1 := by unfold st; split <;> omega
theorem sFirst_length (r : Bool) : ∀ (l : List Int) (x : Int), (sFirst r l x).length = l.length
  | [], _ => rfl
  | n :: t, x => by rw [sFirst, List.length_cons, sFirst_length r t, List.length_cons]
theorem sBlank_length (r : Bool) : ∀ (l : List Int) (x : Int), (sBlank r l x).length ≤ l.length
  | [], _ => Nat.le_refl _
  | n :: t, x => by
    have := sBlank_length r t (st r x + n)
    rw [sBlank, List.length_append, List.length_cons]
    split
    · rw [List.length_singleton]; omega
    · rw [List.length_nil]; omega
theorem sEnd_bound (r : Bool) : ∀ (l : List Int) (x : Int), (∀ n ∈ l, 1 ≤ n ∧ n ≤ 200) → x ≤ sEnd r l x ∧ sEnd r l x ≤ x + 201 * l.length
  | [], x, _ => by simp [sEnd]
  | n :: t, x, h => by
    have h1 := h n (by simp)
    have h2 := sEnd_bound r t (st r x + n) (fun m hm => h m (by simp [hm]))
    have h3 := st_ge r x
    rw [sEnd, List.length_cons]
    omega
theorem sFirst_bound (r : Bool) : ∀ (l : List Int) (x : Int), (∀ n ∈ l, 1 ≤ n ∧ n ≤ 200) → 0 ≤ x → x + 201 * l.length ≤ 100000 → ∀ s ∈ sFirst r l x, 0 ≤ s ∧ s ≤ 100000
  | [], x, _, _, _, s, hs => by simp [sFirst] at hs
  | n :: t, x, h, h0, hm, s, hs => by
    have h1 := h n (by simp)
    have h3 := st_ge r x
    rw [List.length_cons] at hm
    rw [sFirst, List.mem_cons] at hs
    rcases hs with rfl | hs
    · omega
    · exact sFirst_bound r t (st r x + n) (fun m hm => h m (by simp [hm])) (by omega) (by omega) s hs
theorem specStarts_ev (f : Int) (l : List Int) (r : Bool) (hb : isBk f l = true) : Ev (fun k => spec_l02Starts.f k f l r) (sFirst r l (f + 1), sEnd r l (f + 1)) := by
  obtain ⟨f0, f1, l0, l1, hx⟩ := isBk_iff.1 hb
  have loop : ∀ (d i : Nat), i + d = l.length → ∀ (x : Int) (out : List Int), out.length = i → 0 ≤ x → x ≤ 41 + 201 * i → Ev (fun k => spec_l02Starts.l0 k out x (i : Int) f l r) (out ++ sFirst r (l.drop i) x, sEnd r (l.drop i) x) := by
    intro d
    induction d with
    | zero =>
      intro i hi x out ho x0 x1
      rw [show l.drop i = [] from List.drop_of_length_le (by omega)]
      simp only [sFirst, sEnd, List.append_nil]
      exact Ev.step (f := fun _ => some (out, x)) (fun k => by rw [spec_l02Starts.l0, if_neg (by omega)]) (Ev.now _)
    | succ d ih =>
      intro i hi x out ho x0 x1
      have hn := hx (rd l (i : Int)) (rd_mem (by omega))
      have hs := st_ge r x
      have h := ih (i + 1) (by omega) (st r x + rd l (i : Int)) (out ++ [st r x]) (by simp [ho]) (by omega) (by omega)
      rw [drop_cons (xs := l) (i := i) (by omega), sFirst, sEnd]
      rw [List.append_assoc] at h
      refine Ev.step (fun k => ?_) h
      rw [spec_l02Starts.l0, if_pos (by omega)]
      by_cases hr : r = true
      · rw [if_pos hr]
        by_cases ht : Int.tmod x 2 = 0
        · have e : st r x = x + 1 := if_pos ⟨hr, ht⟩
          rw [e] at hs ⊢
          rw [if_pos ht, if_pos (by omega), if_pos (by omega), w64 (x := x + 1) (by omega) (by omega), w64 (x := x + 1 + rd l (i : Int)) (by omega) (by omega), w64n i (by omega)]
        · have e : st r x = x := if_neg (fun z => ht z.2)
          rw [e] at hs ⊢
          rw [if_neg ht, if_pos (by omega), if_pos (by omega), w64 (x := x + rd l (i : Int)) (by omega) (by omega), w64n i (by omega)]
      · have e : st r x = x := if_neg (fun z => hr z.1)
        rw [e] at hs ⊢
        rw [if_neg hr, if_pos (by omega), if_pos (by omega), w64 (x := x + rd l (i : Int)) (by omega) (by omega), w64n i (by omega)]
  have := loop l.length 0 (by omega) (f + 1) [] rfl (by omega) (by omega)
  rw [List.drop_zero, List.nil_append] at this
  refine Ev.congr (fun k => ?_) this
  rw [spec_l02Starts.f, w64 (x := f + 1) (by omega) (by omega)]
  rfl
theorem implStarts_ev (f : Int) (l : List Int) (r : Bool) (hb : isBk f l = true) : Ev (fun k => impl_starts.f k f l r) (sFirst r l (f + 1), sBlank r l (f + 1), sEnd r l (f + 1) - 1) := by
  obtain ⟨f0, f1, l0, l1, hx⟩ := isBk_iff.1 hb
  have loop : ∀ (d i : Nat), i + d = l.length → ∀ (x : Int) (out bl : List Int), out.length = i → bl.length ≤ i → 0 ≤ x → x ≤ 41 + 201 * i → Ev (fun k => impl_starts.l0 k out bl x l (l.length : Int) (i : Int) f l r) (out ++ sFirst r (l.drop i) x, bl ++ sBlank r (l.drop i) x, sEnd r (l.drop i) x - 1) := by
    intro d
    induction d with
    | zero =>
      intro i hi x out bl ho hbl x0 x1
      rw [show l.drop i = [] from List.drop_of_length_le (by omega)]
      simp only [sFirst, sEnd, sBlank, List.append_nil]
      exact Ev.step (f := fun _ => some (out, bl, x - 1)) (fun k => by rw [impl_starts.l0, if_neg (by omega), w64 (x := x - 1) (by omega) (by omega)]) (Ev.now _)
    | succ d ih =>
      intro i hi x out bl ho hbl x0 x1
      have hn := hx (rd l (i : Int)) (rd_mem (by omega))
      have hs := st_ge r x
      rw [drop_cons (xs := l) (i := i) (by omega), sFirst, sEnd, sBlank]
      by_cases hr : r = true
      · by_cases ht : Int.tmod x 2 = 0
        · have e : st r x = x + 1 := if_pos ⟨hr, ht⟩
          have h := ih (i + 1) (by omega) (st r x + rd l (i : Int)) (out ++ [st r x]) (bl ++ [x]) (by simp [ho]) (by simp; omega) (by omega) (by omega)
          rw [List.append_assoc, List.append_assoc] at h
          rw [if_pos ⟨hr, ht⟩]
          refine Ev.step (fun k => ?_) h
          rw [e] at hs ⊢
          rw [impl_starts.l0, if_pos (by omega), if_pos (by omega), if_pos (by omega), if_pos hr, if_pos ht, if_pos (by omega), if_pos (by omega), w64 (x := x + 1) (by omega) (by omega), w64 (x := x + 1 + rd l (i : Int)) (by omega) (by omega), w64n i (by omega)]
        · have e : st r x = x := if_neg (fun z => ht z.2)
          have h := ih (i + 1) (by omega) (st r x + rd l (i : Int)) (out ++ [st r x]) bl (by simp [ho]) (by omega) (by omega) (by omega)
          rw [List.append_assoc] at h
          rw [if_neg (fun z => ht z.2), List.nil_append]
          refine Ev.step (fun k => ?_) h
          rw [e] at hs ⊢
          rw [impl_starts.l0, if_pos (by omega), if_pos (by omega), if_pos (by omega), if_pos hr, if_neg ht, if_pos (by omega), w64 (x := x + rd l (i : Int)) (by omega) (by omega), w64n i (by omega)]
      · have e : st r x = x := if_neg (fun z => hr z.1)
        have h := ih (i + 1) (by omega) (st r x + rd l (i : Int)) (out ++ [st r x]) bl (by simp [ho]) (by omega) (by omega) (by omega)
        rw [List.append_assoc] at h
        rw [if_neg (fun z => hr z.1), List.nil_append]
        refine Ev.step (fun k => ?_) h
        rw [e] at hs ⊢
        rw [impl_starts.l0, if_pos (by omega), if_pos (by omega), if_pos (by omega), if_neg hr, if_pos (by omega), w64 (x := x + rd l (i : Int)) (by omega) (by omega), w64n i (by omega)]
  have := loop l.length 0 (by omega) (f + 1) [] [] rfl (by simp) (by omega) (by omega)
  rw [List.drop_zero, List.nil_append, List.nil_append] at this
  refine Ev.congr (fun k => ?_) this
  rw [impl_starts.f, w64 (x := f + 1) (by omega) (by omega)]
  rfl
def chGo (p : Int) : List Int → List Int → Int → Int
  | s :: ss, n :: ns, i => if s ≤ p ∧ p ≤ s + n - 1 then i else chGo p ss ns (i + 1)
  | _, _, _ => -1
theorem specChapter_ev (f : Int) (l : List Int) (r : Bool) (p : Int) (hb : isBk f l = true) : Ev (fun k => spec_l02Chapter.f k f l r p) (chGo p (sFirst r l (f + 1)) l 0) := by
  obtain ⟨f0, f1, l0, l1, hx⟩ := isBk_iff.1 hb
  have hlen := sFirst_length r l (f + 1)
  have hbd : ∀ i : Nat, i < l.length → 0 ≤ rd (sFirst r l (f + 1)) (i : Int) ∧ rd (sFirst r l (f + 1)) (i : Int) ≤ 100000 := fun i hi => sFirst_bound r l (f + 1) hx (by omega) (by omega) _ (rd_mem (by omega))
  have key : ∀ ss : List Int, ss.length = l.length → (∀ i : Nat, i < l.length → 0 ≤ rd ss (i : Int) ∧ rd ss (i : Int) ≤ 100000) → Ev (fun k => spec_l02Chapter.l0 k p ss 0 f l r) (chGo p ss l 0) := by
   intro ss hlen hbd
   have loop : ∀ (d i : Nat), i + d = l.length → Ev (fun k => spec_l02Chapter.l0 k p ss (i : Int) f l r) (chGo p (ss.drop i) (l.drop i) (i : Int)) := by
     intro d
     induction d with
     | zero =>
       intro i hi
       rw [show l.drop i = [] from List.drop_of_length_le (by omega), show ss.drop i = [] from List.drop_of_length_le (by omega), chGo]
       · exact Ev.step (f := fun _ => some (-1)) (fun k => by rw [spec_l02Chapter.l0, if_neg (by omega)]) (Ev.now _)
       · intros; contradiction
     | succ d ih =>
       intro i hi
       have h1 := hbd i (by omega)
       have h2 := hx (rd l (i : Int)) (rd_mem (by omega))
       rw [drop_cons (xs := l) (i := i) (by omega), drop_cons (xs := ss) (i := i) (by omega), chGo]
       refine Ev.step (f := fun k => if decide (rd ss (i : Int) ≤ p ∧ p ≤ rd ss (i : Int) + rd l (i : Int) - 1) = true then some (i : Int) else spec_l02Chapter.l0 k p ss ((i + 1 : Nat) : Int) f l r) (fun k => by
         rw [spec_l02Chapter.l0, if_pos (by omega), if_pos (by omega), if_pos (by omega), l01In_eq, w64n i (by omega), w64 (x := rd ss (i : Int) + rd l (i : Int)) (by omega) (by omega), w64 (x := rd ss (i : Int) + rd l (i : Int) - 1) (by omega) (by omega)]
         rfl) ?_
       by_cases h : rd ss (i : Int) ≤ p ∧ p ≤ rd ss (i : Int) + rd l (i : Int) - 1
       · rw [if_pos h]; exact Ev_ite_t (decide_eq_true h) (Ev.now _)
       · rw [if_neg h]; exact Ev_ite_f (by rw [decide_eq_true_iff]; exact h) (ih (i + 1) (by omega))
   have := loop l.length 0 (by omega)
   rw [List.drop_zero, List.drop_zero] at this
   exact Ev.congr (fun k => rfl) this
  unfold spec_l02Chapter.f
  exact Ev.bind (specStarts_ev f l r hb) (key _ hlen hbd)
theorem chGo_low (r : Bool) (p : Int) : ∀ (l : List Int) (x i : Int), (∀ n ∈ l, 1 ≤ n ∧ n ≤ 200) → p < x → chGo p (sFirst r l x) l i = -1
  | [], x, i, _, _ => by rw [chGo]; intros; contradiction
  | n :: t, x, i, h, hp => by
    have h1 := h n (by simp)
    have h3 := st_ge r x
    rw [sFirst, chGo, if_neg (by omega)]
    exact chGo_low r p t (st r x + n) (i + 1) (fun m hm => h m (by simp [hm])) (by omega)
theorem sBlank_ge (r : Bool) : ∀ (l : List Int) (x : Int), (∀ n ∈ l, 1 ≤ n ∧ n ≤ 200) → ∀ q ∈ sBlank r l x, x ≤ q ∧ q < sEnd r l x
  | [], x, _, q, hq => by simp [sBlank] at hq
  | n :: t, x, h, q, hq => by
    have h1 := h n (by simp)
    have h3 := st_ge r x
    have h2 := sEnd_bound r t (st r x + n) (fun m hm => h m (by simp [hm]))
    rw [sBlank, List.mem_append] at hq
    rw [sEnd]
    rcases hq with hq | hq
    · split at hq
      · rw [List.mem_singleton] at hq; omega
      · simp at hq
    · have := sBlank_ge r t (st r x + n) (fun m hm => h m (by simp [hm])) q hq
      omega
theorem sBlank_sorted (r : Bool) : ∀ (l : List Int) (x : Int), (∀ n ∈ l, 1 ≤ n ∧ n ≤ 200) → (sBlank r l x).Pairwise (· < ·)
  | [], x, _ => by simp [sBlank]
  | n :: t, x, h => by
    have h1 := h n (by simp)
    have h3 := st_ge r x
    have ih := sBlank_sorted r t (st r x + n) (fun m hm => h m (by simp [hm]))
    rw [sBlank]
    split
    · rw [List.singleton_append, List.pairwise_cons]
      refine ⟨fun q hq => ?_, ih⟩
      have := sBlank_ge r t (st r x + n) (fun m hm => h m (by simp [hm])) q hq
      omega
    · rw [List.nil_append]; exact ih
theorem chGo_blank (r : Bool) (p : Int) : ∀ (l : List Int) (x i : Int), (∀ n ∈ l, 1 ≤ n ∧ n ≤ 200) → p ∈ sBlank r l x → chGo p (sFirst r l x) l i = -1
  | [], x, i, _, hp => by simp [sBlank] at hp
  | n :: t, x, i, h, hp => by
    have h1 := h n (by simp)
    have h3 := st_ge r x
    rw [sBlank, List.mem_append] at hp
    rw [sFirst, chGo]
    rcases hp with hp | hp
    · split at hp
      · rename_i hc
        rw [List.mem_singleton] at hp
        have e : st r x = x + 1 := if_pos hc
        rw [if_neg (by omega)]
        exact chGo_low r p t (st r x + n) (i + 1) (fun m hm => h m (by simp [hm])) (by omega)
      · simp at hp
    · have := sBlank_ge r t (st r x + n) (fun m hm => h m (by simp [hm])) p hp
      rw [if_neg (by omega)]
      exact chGo_blank r p t (st r x + n) (i + 1) (fun m hm => h m (by simp [hm])) hp
theorem chGo_in (r : Bool) (p : Int) : ∀ (l : List Int) (x i : Int), (∀ n ∈ l, 1 ≤ n ∧ n ≤ 200) → x ≤ p → p < sEnd r l x → p ∉ sBlank r l x → i ≤ chGo p (sFirst r l x) l i ∧ chGo p (sFirst r l x) l i < i + l.length
  | [], x, i, _, h0, h1, _ => by simp [sEnd] at h1; omega
  | n :: t, x, i, h, h0, hE, hp => by
    have h1 := h n (by simp)
    have h3 := st_ge r x
    rw [sBlank, List.mem_append] at hp
    rw [sEnd] at hE
    rw [sFirst, chGo, List.length_cons]
    by_cases hc : st r x ≤ p ∧ p ≤ st r x + n - 1
    · rw [if_pos hc]; omega
    · rw [if_neg hc]
      have hge : st r x + n ≤ p := by
        rcases Int.lt_or_le p (st r x) with hlt | hge
        · exfalso
          apply hp
          left
          by_cases hcc : r = true ∧ Int.tmod x 2 = 0
          · rw [if_pos hcc, List.mem_singleton]
            have e : st r x = x + 1 := if_pos hcc
            omega
          · have e : st r x = x := if_neg hcc
            omega
        · omega
      have := chGo_in r p t (st r x + n) (i + 1) (fun m hm => h m (by simp [hm])) hge hE (fun z => hp (.inr z))
      omega
theorem implPageCount_ev (f : Int) (l : List Int) (r : Bool) : Ev (fun k => impl_PageCount.f k f l r) (if isBk f l = true then (sEnd r l (f + 1) - 1, 0) else (0, 1)) := by
  unfold impl_PageCount.f
  rw [implIsBook_eq]
  simp only [Option.bind_some]
  by_cases h : isBk f l = true
  · rw [if_pos h]
    exact Ev_ite_t h (Ev.bind (implStarts_ev f l r h) (Ev.now _))
  · rw [if_neg h]
    exact Ev_ite_f h (Ev.now _)
def cdOf (f : Int) (l : List Int) (r : Bool) (p : Int) : Int := if isBk f l = true then (if 1 ≤ p ∧ p ≤ sEnd r l (f + 1) - 1 then 0 else 2) else 1
theorem specCode_ev (f : Int) (l : List Int) (r : Bool) (p : Int) (hl : l.length ≤ 35184372088832) : Ev (fun k => spec_l02Code.f k f l r p) (cdOf f l r p) := by
  unfold spec_l02Code.f cdOf
  refine Ev.bind (specIsBook_ev f l r hl) ?_
  by_cases hb : isBk f l = true
  · obtain ⟨f0, f1, l0, l1, hx⟩ := isBk_iff.1 hb
    have hE := sEnd_bound r l (f + 1) hx
    rw [if_pos hb]
    refine Ev_ite_t hb (Ev.bind (specStarts_ev f l r hb) ?_)
    simp only [l01In_eq, Option.bind_some, decide_eq_true_eq]
    rw [w64 (x := sEnd r l (f + 1) - 1) (by omega) (by omega)]
    by_cases h : 1 ≤ p ∧ p ≤ sEnd r l (f + 1) - 1
    · simp only [if_pos h]; exact Ev.now _
    · simp only [if_neg h]; exact Ev.now _
  · rw [if_neg hb]; exact Ev_ite_f hb (Ev.now _)
theorem implCode_ev (f : Int) (l : List Int) (r : Bool) (p : Int) : Ev (fun k => impl_checkPage.f k f l r p) (cdOf f l r p) := by
  unfold impl_checkPage.f cdOf
  refine Ev.bind (implPageCount_ev f l r) ?_
  by_cases hb : isBk f l = true
  · rw [if_pos hb, if_pos hb]
    refine Ev_ite_t rfl ?_
    simp only [inRange_eq, Option.bind_some, decide_eq_true_eq]
    by_cases h : 1 ≤ p ∧ p ≤ sEnd r l (f + 1) - 1
    · simp only [if_pos h]; exact Ev.now _
    · simp only [if_neg h]; exact Ev.now _
  · rw [if_neg hb, if_neg hb]
    exact Ev_ite_f (by simp) (Ev.now _)
def chOf (f : Int) (l : List Int) (r : Bool) (p : Int) : Int × Int := if cdOf f l r p = 0 then (if chGo p (sFirst r l (f + 1)) l 0 < 0 then (0, 4) else (chGo p (sFirst r l (f + 1)) l 0, 0)) else (0, cdOf f l r p)
theorem cdOf_book {f : Int} {l : List Int} {r : Bool} {p : Int} (h : cdOf f l r p = 0) : isBk f l = true ∧ 1 ≤ p ∧ p ≤ sEnd r l (f + 1) - 1 := by
  unfold cdOf at h
  by_cases hb : isBk f l = true
  · rw [if_pos hb] at h
    by_cases h2 : 1 ≤ p ∧ p ≤ sEnd r l (f + 1) - 1
    · exact ⟨hb, h2.1, h2.2⟩
    · rw [if_neg h2] at h; omega
  · rw [if_neg hb] at h; omega
theorem specChapterOf_ev (f : Int) (l : List Int) (r : Bool) (p : Int) (hl : l.length ≤ 35184372088832) : Ev (fun k => spec_ChapterOf.f k f l r p) (chOf f l r p) := by
  unfold spec_ChapterOf.f chOf
  refine Ev.bind (specCode_ev f l r p hl) ?_
  by_cases h : cdOf f l r p = 0
  · rw [if_pos h]
    refine Ev_ite_t h (Ev.bind (specChapter_ev f l r p (cdOf_book h).1) ?_)
    by_cases h2 : chGo p (sFirst r l (f + 1)) l 0 < 0
    · simp only [if_pos h2]; exact Ev.now _
    · simp only [if_neg h2]; exact Ev.now _
  · rw [if_neg h]; exact Ev_ite_f h (Ev.now _)
theorem implChapterOf_ev (f : Int) (l : List Int) (r : Bool) (p : Int) : Ev (fun k => impl_ChapterOf.f k f l r p) (chOf f l r p) := by
  unfold impl_ChapterOf.f chOf
  refine Ev.bind (implCode_ev f l r p) ?_
  by_cases h : cdOf f l r p = 0
  · rw [if_pos h]
    have hb := (cdOf_book h).1
    obtain ⟨f0, f1, l0, l1, hx⟩ := isBk_iff.1 hb
    have hlen := sFirst_length r l (f + 1)
    have hbd : ∀ i : Nat, i < l.length → 0 ≤ rd (sFirst r l (f + 1)) (i : Int) ∧ rd (sFirst r l (f + 1)) (i : Int) ≤ 100000 := fun i hi => sFirst_bound r l (f + 1) hx (by omega) (by omega) _ (rd_mem (by omega))
    have key : ∀ ss : List Int, ss.length = l.length → (∀ i : Nat, i < l.length → 0 ≤ rd ss (i : Int) ∧ rd ss (i : Int) ≤ 100000) → Ev (fun k => impl_ChapterOf.l0 k p ss (ss.length : Int) 0 f l r) (if chGo p ss l 0 < 0 then (0, 4) else (chGo p ss l 0, 0)) := by
     intro ss hlen hbd
     have loop : ∀ (d i : Nat), i + d = l.length → Ev (fun k => impl_ChapterOf.l0 k p ss (ss.length : Int) (i : Int) f l r) (if chGo p (ss.drop i) (l.drop i) (i : Int) < 0 then (0, 4) else (chGo p (ss.drop i) (l.drop i) (i : Int), 0)) := by
       intro d
       induction d with
       | zero =>
         intro i hi
         have e : chGo p (ss.drop i) (l.drop i) (i : Int) = -1 := by
           rw [show l.drop i = [] from List.drop_of_length_le (by omega), show ss.drop i = [] from List.drop_of_length_le (by omega), chGo]
           intros; contradiction
         rw [e, if_pos (by omega)]
         exact Ev.step (f := fun _ => some (0, 4)) (fun k => by rw [impl_ChapterOf.l0, if_neg (by omega)]) (Ev.now _)
       | succ d ih =>
         intro i hi
         have h1 := hbd i (by omega)
         have h2 := hx (rd l (i : Int)) (rd_mem (by omega))
         rw [drop_cons (xs := l) (i := i) (by omega), drop_cons (xs := ss) (i := i) (by omega), chGo]
         refine Ev.step (f := fun k => if decide (rd ss (i : Int) ≤ p ∧ p ≤ rd ss (i : Int) + rd l (i : Int) - 1) = true then some ((i : Int), 0) else impl_ChapterOf.l0 k p ss (ss.length : Int) ((i + 1 : Nat) : Int) f l r) (fun k => by
           rw [impl_ChapterOf.l0, if_pos (by omega), if_pos (by omega), if_pos (by omega), if_pos (by omega), inRange_eq, w64n i (by omega), w64 (x := rd ss (i : Int) + rd l (i : Int)) (by omega) (by omega), w64 (x := rd ss (i : Int) + rd l (i : Int) - 1) (by omega) (by omega)]
           rfl) ?_
         by_cases hc : rd ss (i : Int) ≤ p ∧ p ≤ rd ss (i : Int) + rd l (i : Int) - 1
         · rw [if_pos hc, if_neg (by omega)]; exact Ev_ite_t (decide_eq_true hc) (Ev.now _)
         · rw [if_neg hc]; exact Ev_ite_f (by rw [decide_eq_true_iff]; exact hc) (ih (i + 1) (by omega))
     have := loop l.length 0 (by omega)
     rw [List.drop_zero, List.drop_zero] at this
     exact Ev.congr (fun k => rfl) this
    exact Ev_ite_t h (Ev.bind (implStarts_ev f l r hb) (key _ hlen hbd))
  · rw [if_neg h]; exact Ev_ite_f h (Ev.now _)
theorem FnExactChapterOf : laws_FnExactChapterOf.Pure := by
  intro f l r p hf hl hw hp
  apply Ev.rounds
  unfold laws_FnExactChapterOf.f
  rw [szBook_eq f l r hl]
  simp only [Option.bind_some]
  by_cases hb : (l.length : Int) > 1048576
  · exact Ev_ite_t (by rw [if_pos hb]; omega) (Ev.now _)
  · refine Ev_ite_f (by rw [if_neg hb]; omega) ?_
    have t := toBook_ev f l r (by omega)
    refine Ev.bind t (Ev.bind (specChapterOf_ev f l r p (by omega)) (Ev.bind t (Ev.bind (implChapterOf_ev f l r p) (Ev_ite_t rfl ?_))))
    refine Ev.step (fun k => by rw [laws_FnExactChapterOf.j0, if_neg (by simp)]) ?_
    exact Ev.bind t (Ev.bind (eqBook_ev f l r (by omega)) (Ev_ite_t rfl (Ev.now _)))

end Go.Proofs.Ytcgjeglkgdakcaa.Pure
