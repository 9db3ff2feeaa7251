/- The pure statement of FnExactPlaceOf: for every input that the row lets in, the law's Lean function answers true; no further condition. -/
import Derived.Test.YtjlklieoibhblaaDoorQFnExactPlaceOfx4
set_option linter.unusedVariables false
set_option linter.unusedSimpArgs false
namespace Go.Proofs.YtjlklieoibhblaaDoor.Pure
open Go.RowKit Go.Proofs.YtjlklieoibhblaaDoor.QFnExactPlaceOf Go.Proofs.YtjlklieoibhblaaDoorW.PrintWords Go.Proofs.YtjlklieoibhblaaDoorW.PrintLast

theorem w64 {x : Int} (h0 : -9223372036854775808 ≤ x) (h1 : x ≤ 9223372036854775807) : wrap64 x = x := by unfold wrap64; omega
theorem wz : wrap64 0 = 0 := w64 (by omega) (by omega)
theorem w64_range (x : Int) : -9223372036854775808 ≤ wrap64 x ∧ wrap64 x ≤ 9223372036854775807 := by unfold wrap64; omega
theorem wf64 {x : Int} (h : (Lit.int .i64 x).wf = true) : -9223372036854775808 ≤ x ∧ x ≤ 9223372036854775807 := by
  have h' : (decide (IntKind.i64.min ≤ x) && decide (x ≤ IntKind.i64.max)) = true := h
  simp only [Bool.and_eq_true, decide_eq_true_eq] at h'
  exact h'
theorem wf8 {x : Int} (h : (Lit.int .u8 x).wf = true) : 0 ≤ x ∧ x ≤ 255 := by
  have h' : (decide (IntKind.u8.min ≤ x) && decide (x ≤ IntKind.u8.max)) = true := h
  simp only [Bool.and_eq_true, decide_eq_true_eq] at h'
  exact h'
theorem rd_get {xs : List Int} {i : Nat} (h : i < xs.length) : rd xs (i : Int) = xs[i] := by
  simp [rd, List.getD_eq_getElem?_getD, h]
theorem rd_nat (xs : List Int) (i : Nat) : rd xs (i : Int) = xs.getD i 0 := by simp [rd]
theorem rd_mem {xs : List Int} {i : Nat} (h : i < xs.length) : rd xs (i : Int) ∈ xs := by rw [rd_get h]; exact List.getElem_mem h
theorem rd_ext {xs ys : List Int} (hl : xs.length = ys.length) (h : ∀ i : Nat, i < xs.length → rd xs (i : Int) = rd ys (i : Int)) : xs = ys := by
  apply List.ext_getElem hl
  intro i h1 h2
  have := h i h1
  rwa [rd_get h1, rd_get h2] at this
theorem rd_set {xs : List Int} {i j : Nat} {v : Int} (hi : i < xs.length) : rd (xs.set i v) (j : Int) = if i = j then v else rd xs (j : Int) := by
  simp only [rd_nat, List.getD_eq_getElem?_getD, List.getElem?_set]
  by_cases h : i = j
  · subst h; simp [hi]
  · simp [h]
theorem rd_append_left {xs ys : List Int} {j : Nat} (h : j < xs.length) : rd (xs ++ ys) (j : Int) = rd xs (j : Int) := by
  simp only [rd_nat, List.getD_eq_getElem?_getD, List.getElem?_append_left h]
theorem rd_append_at {xs : List Int} {v : Int} : rd (xs ++ [v]) (xs.length : Int) = v := by
  simp [rd_nat, List.getD_eq_getElem?_getD]
theorem rd_take {xs : List Int} {i j : Nat} (h : j < i) : rd (xs.take i) (j : Int) = rd xs (j : Int) := by
  simp [rd_nat, List.getD_eq_getElem?_getD, List.getElem?_take, h]
theorem rd_drop {xs : List Int} {i j : Nat} : rd (xs.drop i) (j : Int) = rd xs ((i + j : Nat) : Int) := by
  simp only [rd_nat, List.getD_eq_getElem?_getD, List.getElem?_drop]
theorem toNat_cast (i : Nat) : ((i : Nat) : Int).toNat = i := Int.toNat_natCast i
theorem drop_cons {xs : List Int} {i : Nat} (h : i < xs.length) : xs.drop i = rd xs (i : Int) :: xs.drop (i + 1) := by
  rw [rd_get h]; exact List.drop_eq_getElem_cons h
theorem Ev_ite_t {α : Type} {c : Prop} [Decidable c] {f g : Nat → Option α} {r : α} (h : c) (k : Ev f r) : Ev (fun n => if c then f n else g n) r :=
  Ev.congr (fun _ => if_pos h) k
theorem Ev_ite_f {α : Type} {c : Prop} [Decidable c] {f g : Nat → Option α} {r : α} (h : ¬ c) (k : Ev g r) : Ev (fun n => if c then f n else g n) r :=
  Ev.congr (fun _ => if_neg h) k
theorem w64n (i : Nat) (h : i < 9223372036854775807) : wrap64 ((i : Int) + 1) = ((i + 1 : Nat) : Int) := by
  rw [w64 (by omega) (by omega)]; rfl
theorem wrap_add_wrap (a b : Int) : wrap64 (wrap64 a + b) = wrap64 (a + b) := by unfold wrap64; omega
theorem wrap_add_wrap' (a b : Int) : wrap64 (a + wrap64 b) = wrap64 (a + b) := by unfold wrap64; omega
theorem EvE_bind {α β : Type} {g : Nat → Option α} {f : Nat → α → Option β} {a : α} (h : Ev g a) (k : ∃ r, Ev (fun n => f n a) r) : ∃ r, Ev (fun n => (g n).bind (f n)) r := by
  obtain ⟨r, k⟩ := k
  exact ⟨r, Ev.bind h k⟩
theorem EvE_now {α : Type} (a : α) : ∃ r, Ev (fun _ : Nat => some a) r := ⟨a, Ev.now a⟩
theorem EvE_ite_t {α : Type} {c : Prop} [Decidable c] {f g : Nat → Option α} (h : c) (k : ∃ r, Ev f r) : ∃ r, Ev (fun n => if c then f n else g n) r := by
  obtain ⟨r, k⟩ := k
  exact ⟨r, Ev_ite_t h k⟩
theorem EvE_ite_f {α : Type} {c : Prop} [Decidable c] {f g : Nat → Option α} (h : ¬ c) (k : ∃ r, Ev g r) : ∃ r, Ev (fun n => if c then f n else g n) r := by
  obtain ⟨r, k⟩ := k
  exact ⟨r, Ev_ite_f h k⟩
theorem inRange_eq (n a b : Int) : impl_inRange.f n a b = some (decide (a ≤ n ∧ n ≤ b)) := by
  unfold impl_inRange.f
  by_cases h : a ≤ n
  · rw [if_pos h]; simp [h]
  · rw [if_neg h]; simp [h]
def isF (s : ByteArray) : Bool := decide ((∀ i : Nat, i < s.size → bt s (i : Int) = 76 ∨ bt s (i : Int) = 82) ∧ s.size ≤ 6)
theorem specIsFolds_ev (s : ByteArray) (hl : s.size ≤ 35184372088832) : Ev (fun k => spec_IsFolds.f k s) (isF s) := by
  have loop : ∀ (d i : Nat), i + d = s.size → ∀ b : Bool, (b = true ↔ (∀ j : Nat, i ≤ j → j < s.size → bt s (j : Int) = 76 ∨ bt s (j : Int) = 82) ∧ s.size ≤ 6) → Ev (fun k => spec_IsFolds.l0 k s (i : Int)) b := by
    intro d
    induction d with
    | zero =>
      intro i hi b hb
      have e : b = decide ((s.size : Int) ≤ 6) := by
        rw [Bool.eq_iff_iff, hb, decide_eq_true_iff]
        exact ⟨fun h => by omega, fun h => ⟨fun j h1 h2 => by omega, by omega⟩⟩
      rw [e]
      exact Ev.step (f := fun _ => some (decide ((s.size : Int) ≤ 6))) (fun k => by rw [spec_IsFolds.l0, if_neg (by omega)]) (Ev.now _)
    | succ d ih =>
      intro i hi b hb
      by_cases h1 : bt s (i : Int) = 76 ∨ bt s (i : Int) = 82
      · have h2 := ih (i + 1) (by omega) b (by
          rw [hb]
          refine ⟨fun h => ⟨fun j a c => h.1 j (by omega) c, h.2⟩, fun h => ⟨fun j a c => ?_, h.2⟩⟩
          by_cases e : j = i
          · subst e; exact h1
          · exact h.1 j (by omega) c)
        refine Ev.step (fun k => ?_) h2
        rw [spec_IsFolds.l0, if_pos (by omega), if_pos (by omega), w64n i (by omega)]
        by_cases e : bt s (i : Int) = 76
        · rw [if_pos e]
        · rw [if_neg e, if_pos (by omega)]
      · obtain rfl : b = false := by
          rw [Bool.eq_false_iff]; intro h
          exact h1 ((hb.1 h).1 i (Nat.le_refl _) (by omega))
        refine Ev.step (f := fun _ => some false) (fun k => ?_) (Ev.now _)
        rw [spec_IsFolds.l0, if_pos (by omega), if_pos (by omega), if_neg (by omega), if_neg (by omega)]
  exact Ev.congr (fun k => rfl) (loop s.size 0 (by omega) _ (by unfold isF; rw [decide_eq_true_iff]; exact ⟨fun h => ⟨fun j _ c => h.1 j c, h.2⟩, fun h => ⟨fun j c => h.1 j (by omega) c, h.2⟩⟩))
theorem trim_nil (cs : List UInt8) : ∀ l : List UInt8, Go.Lib.trimS l cs = [] ↔ ∀ b ∈ l, cs.contains b = true := by
  have dw : ∀ l : List UInt8, l.dropWhile (cs.contains ·) = [] ↔ ∀ b ∈ l, cs.contains b = true := by
    intro l
    induction l with
    | nil => simp
    | cons a t ih =>
      rw [List.dropWhile_cons]
      by_cases h : cs.contains a = true
      · rw [if_pos h, ih]
        exact ⟨fun g b hb => by rcases List.mem_cons.1 hb with rfl | hb; exact h; exact g b hb, fun g b hb => g b (List.mem_cons_of_mem _ hb)⟩
      · rw [if_neg h]
        exact ⟨fun g => (List.cons_ne_nil _ _ g).elim, fun g => absurd (g a List.mem_cons_self) h⟩
  intro l
  unfold Go.Lib.trimS Go.Lib.trimLeftS
  rw [dw]
  unfold Go.Lib.trimRightS
  constructor
  · intro g
    have e : l.reverse.dropWhile (cs.contains ·) = [] := by
      cases hd : l.reverse.dropWhile (cs.contains ·) with
      | nil => rfl
      | cons a t =>
        have h1 := List.head?_dropWhile_not (cs.contains ·) l.reverse
        rw [hd] at h1 g
        have h2 := g a (by simp)
        simp only [List.head?_cons] at h1
        rw [h2] at h1
        cases h1
    intro b hb
    exact (dw l.reverse).1 e b (List.mem_reverse.2 hb)
  · intro g
    have e := (dw l.reverse).2 (fun b hb => g b (List.mem_reverse.1 hb))
    rw [e]
    intro b hb
    simp at hb
theorem bt_list (s : ByteArray) (i : Nat) (h : i < s.size) : bt s (i : Int) = ((s.data.toList[i]'(by simpa using h)).toNat : Int) := by
  unfold bt
  rw [dif_pos (by rw [Int.toNat_natCast]; exact h)]
  simp [ByteArray.getElem_eq_getElem_data]
theorem implIsFolds_eq (s : ByteArray) : impl_IsFolds.f s = some (isF s) := by
  unfold impl_IsFolds.f
  by_cases h : (s.size : Int) ≤ 6
  · rw [if_pos h]
    congr 1
    unfold isF
    rw [decide_eq_decide, trim_nil]
    constructor
    · intro g
      refine ⟨fun i hi => ?_, by omega⟩
      rw [bt_list s i hi]
      have := g _ (List.getElem_mem (l := s.data.toList) (n := i) (by simpa using hi))
      simp only [List.contains_cons, List.contains_nil, Bool.or_false, Bool.or_eq_true, beq_iff_eq] at this
      rcases this with e | e
      · rw [e]; left; rfl
      · rw [e]; right; rfl
    · rintro ⟨g, _⟩ b hb
      obtain ⟨i, hi, rfl⟩ := List.mem_iff_getElem.1 hb
      have hi' : i < s.size := by simpa using hi
      have := g i hi'
      rw [bt_list s i hi'] at this
      simp only [List.contains_cons, List.contains_nil, Bool.or_false, Bool.or_eq_true, beq_iff_eq]
      rcases this with e | e
      · left; apply UInt8.toNat_inj.1; exact Int.ofNat.inj e
      · right; apply UInt8.toNat_inj.1; exact Int.ofNat.inj e
  · rw [if_neg h]
    congr 1
    unfold isF
    symm
    rw [decide_eq_false_iff_not]
    rintro ⟨_, g⟩
    omega
def mkb (l : List UInt8) : ByteArray := ⟨l.toArray⟩
theorem mkb_list (l : List UInt8) : (mkb l).toList = l := by rw [ByteArray.toList_eq]; rfl
theorem mkb_size (l : List UInt8) : (mkb l).size = l.length := by show l.toArray.size = _; exact List.size_toArray
theorem mkb_append (a b : List UInt8) : mkb a ++ mkb b = mkb (a ++ b) := by
  apply ByteArray.ext
  rw [ByteArray.data_append]
  show a.toArray ++ b.toArray = (a ++ b).toArray
  simp
theorem mkb_of (s : ByteArray) : s = mkb s.data.toList := by
  apply ByteArray.ext
  show s.data = s.data.toList.toArray
  simp
def allW (p : List UInt8 → Bool) : Nat → Bool
  | 0 => p []
  | n + 1 => allW (fun l => p (76 :: l)) n && allW (fun l => p (82 :: l)) n
theorem allW_spec : ∀ (n : Nat) (p : List UInt8 → Bool), allW p n = true → ∀ l : List UInt8, l.length = n → (∀ c ∈ l, c = 76 ∨ c = 82) → p l = true
  | 0, p, h, l, hl, _ => by
    rw [List.length_eq_zero_iff] at hl
    rw [hl]; exact h
  | n + 1, p, h, l, hl, hc => by
    rw [allW, Bool.and_eq_true] at h
    cases l with
    | nil => simp at hl
    | cons c t =>
      have ht : t.length = n := by simpa using hl
      have hct : ∀ x ∈ t, x = 76 ∨ x = 82 := fun x hx => hc x (List.mem_cons_of_mem _ hx)
      rcases hc c List.mem_cons_self with rfl | rfl
      · exact allW_spec n _ h.1 t ht hct
      · exact allW_spec n _ h.2 t ht hct
def allF (p : List UInt8 → Bool) : Bool := allW p 0 && allW p 1 && allW p 2 && allW p 3 && allW p 4 && allW p 5 && allW p 6
theorem isF_list {s : ByteArray} (h : isF s = true) : s = mkb s.data.toList ∧ s.data.toList.length ≤ 6 ∧ ∀ c ∈ s.data.toList, c = 76 ∨ c = 82 := by
  unfold isF at h
  rw [decide_eq_true_iff] at h
  obtain ⟨h1, h2⟩ := h
  refine ⟨mkb_of s, by simpa using h2, fun c hc => ?_⟩
  obtain ⟨i, hi, rfl⟩ := List.mem_iff_getElem.1 hc
  have hi' : i < s.size := by simpa using hi
  have := h1 i hi'
  rw [bt_list s i hi'] at this
  rcases this with e | e
  · left; apply UInt8.toNat_inj.1; exact Int.ofNat.inj e
  · right; apply UInt8.toNat_inj.1; exact Int.ofNat.inj e
theorem allF_spec {p : List UInt8 → Bool} (h : allF p = true) {s : ByteArray} (hs : isF s = true) : p s.data.toList = true := by
  obtain ⟨_, hl, hc⟩ := isF_list hs
  unfold allF at h
  simp only [Bool.and_eq_true] at h
  obtain ⟨⟨⟨⟨⟨⟨h0, h1⟩, h2⟩, h3⟩, h4⟩, h5⟩, h6⟩ := h
  have : s.data.toList.length = 0 ∨ s.data.toList.length = 1 ∨ s.data.toList.length = 2 ∨ s.data.toList.length = 3 ∨ s.data.toList.length = 4 ∨ s.data.toList.length = 5 ∨ s.data.toList.length = 6 := by omega
  rcases this with e | e | e | e | e | e | e
  · exact allW_spec 0 p h0 _ e hc
  · exact allW_spec 1 p h1 _ e hc
  · exact allW_spec 2 p h2 _ e hc
  · exact allW_spec 3 p h3 _ e hc
  · exact allW_spec 4 p h4 _ e hc
  · exact allW_spec 5 p h5 _ e hc
  · exact allW_spec 6 p h6 _ e hc
def stK (l : List UInt8) : Bool := match impl_foldStrip.f 400 (mkb l), spec_l03Stack.f 400 (mkb l) with
  | some a, some b => a.1 == b && decide (b.length ≤ 64)
  | _, _ => false
theorem st_fin : allF stK = true := by decide +kernel
theorem st_two {s : ByteArray} (hs : isF s = true) : ∃ (st : List Int) (cr : ByteArray), Ev (fun k => impl_foldStrip.f k s) (st, cr) ∧ Ev (fun k => spec_l03Stack.f k s) st ∧ st.length ≤ 64 := by
  have h := allF_spec st_fin hs
  unfold stK at h
  rw [← (isF_list hs).1] at h
  cases e1 : impl_foldStrip.f 400 s with
  | none => rw [e1] at h; simp at h
  | some a =>
    cases e2 : spec_l03Stack.f 400 s with
    | none => rw [e1, e2] at h; simp at h
    | some b =>
      rw [e1, e2] at h
      simp only [Bool.and_eq_true, beq_iff_eq, decide_eq_true_eq] at h
      obtain ⟨h1, h2⟩ := h
      refine ⟨a.1, a.2, Ev.of (impl_foldStrip.mono _) e1, ?_, by rw [h1]; exact h2⟩
      rw [h1]
      exact Ev.of (spec_l03Stack.mono _) e2
theorem lim_fin : ∀ n : Fin 7, wrap64 (wrap64 (2 ^ min n.val 64) - 1) = ((2 ^ n.val : Nat) : Int) - 1 := by decide +kernel
def plK (l : List UInt8) : Bool := match impl_foldStrip.f 400 (mkb l), spec_l03Stack.f 400 (mkb l) with
  | some a, some b => a.1 == b && (List.range (2 ^ l.length)).all (fun c => a.1.any (fun x => x == (c : Int) + 1 || x == -((c : Int) + 1))) && a.1.all (fun x => decide (1 ≤ mx x (-x) ∧ -64 ≤ x ∧ x ≤ 64 ∧ mx x (-x) ≤ ((2 ^ l.length : Nat) : Int))) && decide (a.1.length ≤ 64)
  | _, _ => false
theorem pl_0 : allW plK 0 = true := by decide +kernel
theorem pl_1 : allW plK 1 = true := by decide +kernel
theorem pl_2 : allW plK 2 = true := by decide +kernel
theorem pl_3 : allW plK 3 = true := by decide +kernel
theorem pl_4 : allW plK 4 = true := by decide +kernel
theorem pl_5 : allW plK 5 = true := by decide +kernel
theorem pl_6 : allW plK 6 = true := by decide +kernel
theorem pl_fin : allF plK = true := by
  unfold allF
  rw [pl_0, pl_1, pl_2, pl_3, pl_4, pl_5, pl_6]
  rfl
theorem place_none (p : Int → Bool) : ∀ (l : List Int) (i : Int), (∀ x ∈ l, p x = false) → place_idx p l i = -1
  | [], i, _ => rfl
  | x :: t, i, h => by
    rw [place_idx, if_neg (by rw [h x (by simp)]; simp)]
    exact place_none p t (i + 1) (fun y hy => h y (by simp [hy]))
theorem place_ge (p : Int → Bool) : ∀ (l : List Int) (i : Int), 0 ≤ i → place_idx p l i = -1 ∨ i ≤ place_idx p l i
  | [], i, _ => .inl rfl
  | x :: t, i, h => by
    rw [place_idx]
    by_cases hx : p x = true
    · rw [if_pos hx]; exact .inr (Int.le_refl _)
    · rw [if_neg hx]
      rcases place_ge p t (i + 1) (by omega) with h1 | h1
      · exact .inl h1
      · exact .inr (by omega)
theorem place_some (p : Int → Bool) : ∀ (l : List Int) (i : Int), 0 ≤ i → (∃ x ∈ l, p x = true) → 0 ≤ place_idx p l i
  | [], i, _, h => by obtain ⟨x, hx, _⟩ := h; simp at hx
  | y :: t, i, h0, h => by
    rw [place_idx]
    by_cases hy : p y = true
    · rw [if_pos hy]; exact h0
    · rw [if_neg hy]
      obtain ⟨x, hx, hp⟩ := h
      rcases List.mem_cons.1 hx with rfl | hx
      · exact (hy hp).elim
      · exact place_some p t (i + 1) (by omega) ⟨x, hx, hp⟩
theorem neg64 {x : Int} (h0 : -64 ≤ x) (h1 : x ≤ 64) : wrap64 (-x) = -x := w64 (by omega) (by omega)
theorem mx_abs {x c : Int} (hc : 0 ≤ c) (h : x = c + 1 ∨ x = -(c + 1)) : mx x (-x) = c + 1 := by
  unfold mx
  split <;> omega
theorem place_three {s : ByteArray} (hs : isF s = true) : ∃ (st : List Int) (cr : ByteArray), Ev (fun k => impl_foldStrip.f k s) (st, cr) ∧ Ev (fun k => spec_l03Stack.f k s) st ∧ st.length ≤ 64 ∧ (∀ c : Int, 0 ≤ c → c < ((2 ^ s.data.toList.length : Nat) : Int) → 0 ≤ place_idx (place_is c) st 0) ∧ (∀ x ∈ st, 1 ≤ mx x (-x) ∧ -64 ≤ x ∧ x ≤ 64 ∧ mx x (-x) ≤ ((2 ^ s.data.toList.length : Nat) : Int)) := by
  have h := allF_spec pl_fin hs
  unfold plK at h
  rw [← (isF_list hs).1] at h
  cases e1 : impl_foldStrip.f 400 s with
  | none => rw [e1] at h; simp at h
  | some a =>
    cases e2 : spec_l03Stack.f 400 s with
    | none => rw [e1, e2] at h; simp at h
    | some b =>
      rw [e1, e2] at h
      simp only [Bool.and_eq_true, beq_iff_eq, decide_eq_true_eq] at h
      obtain ⟨⟨⟨h1, h2⟩, h3⟩, h4⟩ := h
      refine ⟨a.1, a.2, Ev.of (impl_foldStrip.mono _) e1, ?_, h4, ?_, ?_⟩
      · rw [h1]; exact Ev.of (spec_l03Stack.mono _) e2
      · intro c c0 c1
        obtain ⟨m, rfl⟩ := Int.eq_ofNat_of_zero_le c0
        have h6 := List.all_eq_true.1 h2 m (List.mem_range.2 (by omega))
        obtain ⟨x, hx, h7⟩ := List.any_eq_true.1 h6
        have h8 := of_decide_eq_true (List.all_eq_true.1 h3 x hx)
        refine place_some _ _ _ (by omega) ⟨x, hx, ?_⟩
        have h9 : x = (m : Int) + 1 ∨ x = -((m : Int) + 1) := by simpa using h7
        unfold place_is
        rw [neg64 h8.2.1 h8.2.2.1, mx_abs (by omega) h9, w64 (by omega) (by omega)]
        exact beq_self_eq_true _
      · intro x hx
        exact of_decide_eq_true (List.all_eq_true.1 h3 x hx)
theorem place_test {x c : Int} (h : 1 ≤ mx x (-x) ∧ -64 ≤ x ∧ x ≤ 64) (hm : mx x (-x) ≤ 64) (c0 : -9223372036854775808 ≤ c) (c1 : c ≤ 9223372036854775807) : place_is c x = true ↔ wrap64 ((mx x (wrap64 (-x))) - 1) = c := by
  unfold place_is
  rw [neg64 h.2.1 h.2.2, w64 (x := mx x (-x) - 1) (by omega) (by omega), beq_iff_eq]
  by_cases hc : c = 9223372036854775807
  · rw [hc, show wrap64 (9223372036854775807 + 1) = -9223372036854775808 by decide +kernel]
    omega
  · rw [w64 (x := c + 1) (by omega) (by omega)]
    omega
theorem specPlace_ev (s : ByteArray) (c : Int) (hl : s.size ≤ 35184372088832) (c0 : -9223372036854775808 ≤ c) (c1 : c ≤ 9223372036854775807) : ∃ v, Ev (fun k => spec_PlaceOf.f k s c) v ∧ Ev (fun k => impl_PlaceOf.f k s c) v ∧ (isF s = true → 0 ≤ c → c < ((2 ^ s.data.toList.length : Nat) : Int) → ∃ st cr, Ev (fun k => impl_foldStrip.f k s) (st, cr) ∧ v = (place_idx (place_is c) st 0, 0)) := by
  by_cases hf : isF s = true
  · obtain ⟨st, cr, h1, h2, h3, h4, h5⟩ := place_three hf
    have hlen : s.data.toList.length ≤ 6 := (isF_list hf).2.1
    have hsz : s.size = s.data.toList.length := by simp
    have hp2 : (2 : Nat) ^ s.data.toList.length ≤ 2 ^ 6 := Nat.pow_le_pow_right (by omega) hlen
    have hspec : Ev (fun k => spec_PlaceOf.f k s c) (if place_idx (place_is c) st 0 < 0 then (0, 2) else (place_idx (place_is c) st 0, 0)) := by
      unfold spec_PlaceOf.f
      refine Ev.bind (specIsFolds_ev s hl) (Ev_ite_t hf (Ev.bind h2 ?_))
      have loop : ∀ (d i : Nat), i + d = st.length → Ev (fun k => spec_PlaceOf.l0 k c st (i : Int)) (if place_idx (place_is c) (st.drop i) (i : Int) < 0 then (0, 2) else (place_idx (place_is c) (st.drop i) (i : Int), 0)) := by
        intro d
        induction d with
        | zero =>
          intro i hi
          rw [List.drop_of_length_le (by omega), place_idx, if_pos (by omega)]
          exact Ev.step (f := fun _ => some (0, 2)) (fun k => by rw [spec_PlaceOf.l0, if_neg (by omega)]) (Ev.now _)
        | succ d ih =>
          intro i hi
          have hil : i < st.length := by omega
          have hm := h5 (rd st (i : Int)) (rd_mem (by omega))
          have ht := place_test (x := rd st (i : Int)) (c := c) ⟨hm.1, hm.2.1, hm.2.2.1⟩ (by omega) c0 c1
          have hd : st.drop i = rd st (i : Int) :: st.drop (i + 1) := by
            rw [List.drop_eq_getElem_cons hil]
            simp [rd, List.getD_eq_getElem?_getD, hil]
          rw [hd, place_idx]
          by_cases hx : place_is c (rd st (i : Int)) = true
          · rw [if_pos hx, if_neg (by omega)]
            exact Ev.step (f := fun _ => some ((i : Int), 0)) (fun k => by rw [spec_PlaceOf.l0, if_pos (by omega), if_pos (by omega), if_pos (ht.1 hx)]) (Ev.now _)
          · rw [if_neg hx]
            refine Ev.step (fun k => ?_) (ih (i + 1) (by omega))
            rw [spec_PlaceOf.l0, if_pos (by omega), if_pos (by omega), if_neg (fun z => hx (ht.2 z)), w64n i (by omega)]
      have := loop st.length 0 (by omega)
      rw [List.drop_zero] at this
      exact Ev.congr (fun k => rfl) this
    by_cases hr : 0 ≤ c ∧ c < ((2 ^ s.data.toList.length : Nat) : Int)
    · have hge := h4 c hr.1 hr.2
      rw [if_neg (by omega)] at hspec
      refine ⟨_, hspec, ?_, fun _ _ _ => ⟨st, cr, h1, rfl⟩⟩
      unfold impl_PlaceOf.f
      rw [implIsFolds_eq]
      simp only [Option.bind_some, if_pos hf, inRange_eq, decide_eq_true_eq]
      have hlim := lim_fin ⟨s.size, by omega⟩
      simp only at hlim
      rw [hlim, hsz]
      simp only [if_pos (show 0 ≤ c ∧ c ≤ ((2 ^ s.data.toList.length : Nat) : Int) - 1 by omega)]
      exact Ev.bind h1 (Ev.now _)
    · have hno : place_idx (place_is c) st 0 = -1 := by
        apply place_none
        intro x hx
        have hm := h5 x hx
        have ht := place_test (x := x) (c := c) ⟨hm.1, hm.2.1, hm.2.2.1⟩ (by omega) c0 c1
        rw [Bool.eq_false_iff]
        intro z
        have := ht.1 z
        rw [neg64 hm.2.1 hm.2.2.1, w64 (by omega) (by omega)] at this
        omega
      rw [hno, if_pos (by omega)] at hspec
      refine ⟨_, hspec, ?_, fun _ a b => (hr ⟨a, b⟩).elim⟩
      unfold impl_PlaceOf.f
      rw [implIsFolds_eq]
      simp only [Option.bind_some, if_pos hf, inRange_eq, decide_eq_true_eq]
      have hlim := lim_fin ⟨s.size, by omega⟩
      simp only at hlim
      rw [hlim, hsz]
      simp only [if_neg (show ¬ (0 ≤ c ∧ c ≤ ((2 ^ s.data.toList.length : Nat) : Int) - 1) by omega)]
      exact Ev.now _
  · refine ⟨(0, 1), ?_, ?_, fun z => (hf z).elim⟩
    · unfold spec_PlaceOf.f
      exact Ev.bind (specIsFolds_ev s hl) (Ev_ite_f hf (Ev.now _))
    · unfold impl_PlaceOf.f
      rw [implIsFolds_eq]
      simp only [Option.bind_some, if_neg hf]
      exact Ev.now _
theorem FnExactPlaceOf : laws_FnExactPlaceOf.Pure := by
  intro s c hs hc
  apply Ev.rounds
  unfold laws_FnExactPlaceOf.f
  by_cases hb : (s.size : Int) > 1048576
  · exact Ev_ite_t hb (Ev.now _)
  · refine Ev_ite_f hb ?_
    obtain ⟨c0, c1⟩ := wf64 hc
    obtain ⟨v, h1, h2, _⟩ := specPlace_ev s c (by omega) c0 c1
    exact Ev.bind h1 (Ev.bind h2 (Ev_ite_t rfl (Ev_ite_t rfl (Ev.now _))))

end Go.Proofs.YtjlklieoibhblaaDoor.Pure
