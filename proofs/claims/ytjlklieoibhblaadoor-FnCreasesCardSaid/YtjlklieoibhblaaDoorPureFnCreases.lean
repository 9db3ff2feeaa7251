/- The pure statement of FnCreases: for every input that the row lets in, the law's Lean function answers true; no further condition. -/
import Derived.Test.YtjlklieoibhblaaDoorQFnCreasesx6
set_option linter.unusedVariables false
set_option linter.unusedSimpArgs false
namespace Go.Proofs.YtjlklieoibhblaaDoor.Pure
open Go.RowKit Go.Proofs.YtjlklieoibhblaaDoor.QFnCreases Go.Proofs.YtjlklieoibhblaaDoorW.PrintWords Go.Proofs.YtjlklieoibhblaaDoorW.PrintLast

theorem w64 {x : Int} (h0 : -9223372036854775808 ≤ x) (h1 : x ≤ 9223372036854775807) : wrap64 x = x := by unfold wrap64; omega
theorem wz : wrap64 0 = 0 := w64 (by omega) (by omega)
theorem w64_range (x : Int) : -9223372036854775808 ≤ wrap64 x ∧ wrap64 x ≤ 9223372036854775807 := by unfold wrap64; omega
theorem wf64 {x : Int} (h : (Lit.int .i64 x).wf = true) : -9223372036854775808 ≤ x ∧ x ≤ 9223372036854775807 := by
  have h' : (decide (IntKind.i64.min ≤ x) && decide (x ≤ IntKind.i64.max)) = true := h
  simp only [Bool.and_eq_true, decide_eq_true_eq] at h'
  exact h'
theorem wf8 {x : Int} (h : (Lit.int .u8 x).wf = true) : 0 ≤ x ∧ x ≤ 255 := by
  have h' : (decide (IntKind.u8.min ≤ x) && decide (x ≤ IntKind.u8.max)) = true := h
  simp only [Bool.and_eq_true, decide_eq_true_eq] at h'
  exact h'
theorem rd_get {xs : List Int} {i : Nat} (h : i < xs.length) : rd xs (i : Int) = xs[i] := by
  simp [rd, List.getD_eq_getElem?_getD, h]
theorem rd_nat (xs : List Int) (i : Nat) : rd xs (i : Int) = xs.getD i 0 := by simp [rd]
theorem rd_mem {xs : List Int} {i : Nat} (h : i < xs.length) : rd xs (i : Int) ∈ xs := by rw [rd_get h]; exact List.getElem_mem h
theorem rd_ext {xs ys : List Int} (hl : xs.length = ys.length) (h : ∀ i : Nat, i < xs.length → rd xs (i : Int) = rd ys (i : Int)) : xs = ys := by
  apply List.ext_getElem hl
  intro i h1 h2
  have := h i h1
  rwa [rd_get h1, rd_get h2] at this
theorem rd_set {xs : List Int} {i j : Nat} {v : Int} (hi : i < xs.length) : rd (xs.set i v) (j : Int) = if i = j then v else rd xs (j : Int) := by
  simp only [rd_nat, List.getD_eq_getElem?_getD, List.getElem?_set]
  by_cases h : i = j
  · subst h; simp [hi]
  · simp [h]
theorem rd_append_left {xs ys : List Int} {j : Nat} (h : j < xs.length) : rd (xs ++ ys) (j : Int) = rd xs (j : Int) := by
  simp only [rd_nat, List.getD_eq_getElem?_getD, List.getElem?_append_left h]
theorem rd_append_at {xs : List Int} {v : Int} : rd (xs ++ [v]) (xs.length : Int) = v := by
  simp [rd_nat, List.getD_eq_getElem?_getD]
theorem rd_take {xs : List Int} {i j : Nat} (h : j < i) : rd (xs.take i) (j : Int) = rd xs (j : Int) := by
  simp [rd_nat, List.getD_eq_getElem?_getD, List.getElem?_take, h]
theorem rd_drop {xs : List Int} {i j : Nat} : rd (xs.drop i) (j : Int) = rd xs ((i + j : Nat) : Int) := by
  simp only [rd_nat, List.getD_eq_getElem?_getD, List.getElem?_drop]
theorem toNat_cast (i : Nat) : ((i : Nat) : Int).toNat = i := Int.toNat_natCast i
theorem drop_cons {xs : List Int} {i : Nat} (h : i < xs.length) : xs.drop i = rd xs (i : Int) :: xs.drop (i + 1) := by
  rw [rd_get h]; exact List.drop_eq_getElem_cons h
theorem Ev_ite_t {α : Type} {c : Prop} [Decidable c] {f g : Nat → Option α} {r : α} (h : c) (k : Ev f r) : Ev (fun n => if c then f n else g n) r :=
  Ev.congr (fun _ => if_pos h) k
theorem Ev_ite_f {α : Type} {c : Prop} [Decidable c] {f g : Nat → Option α} {r : α} (h : ¬ c) (k : Ev g r) : Ev (fun n => if c then f n else g n) r :=
  Ev.congr (fun _ => if_neg h) k
theorem w64n (i : Nat) (h : i < 9223372036854775807) : wrap64 ((i : Int) + 1) = ((i + 1 : Nat) : Int) := by
  rw [w64 (by omega) (by omega)]; rfl
theorem wrap_add_wrap (a b : Int) : wrap64 (wrap64 a + b) = wrap64 (a + b) := by unfold wrap64; omega
theorem wrap_add_wrap' (a b : Int) : wrap64 (a + wrap64 b) = wrap64 (a + b) := by unfold wrap64; omega
theorem EvE_bind {α β : Type} {g : Nat → Option α} {f : Nat → α → Option β} {a : α} (h : Ev g a) (k : ∃ r, Ev (fun n => f n a) r) : ∃ r, Ev (fun n => (g n).bind (f n)) r := by
  obtain ⟨r, k⟩ := k
  exact ⟨r, Ev.bind h k⟩
theorem EvE_now {α : Type} (a : α) : ∃ r, Ev (fun _ : Nat => some a) r := ⟨a, Ev.now a⟩
theorem EvE_ite_t {α : Type} {c : Prop} [Decidable c] {f g : Nat → Option α} (h : c) (k : ∃ r, Ev f r) : ∃ r, Ev (fun n => if c then f n else g n) r := by
  obtain ⟨r, k⟩ := k
  exact ⟨r, Ev_ite_t h k⟩
theorem EvE_ite_f {α : Type} {c : Prop} [Decidable c] {f g : Nat → Option α} (h : ¬ c) (k : ∃ r, Ev g r) : ∃ r, Ev (fun n => if c then f n else g n) r := by
  obtain ⟨r, k⟩ := k
  exact ⟨r, Ev_ite_f h k⟩
def isF (s : ByteArray) : Bool := decide ((∀ i : Nat, i < s.size → bt s (i : Int) = 76 ∨ bt s (i : Int) = 82) ∧ s.size ≤ 6)
theorem specIsFolds_ev (s : ByteArray) (hl : s.size ≤ 35184372088832) : Ev (fun k => spec_IsFolds.f k s) (isF s) := by
  have loop : ∀ (d i : Nat), i + d = s.size → ∀ b : Bool, (b = true ↔ (∀ j : Nat, i ≤ j → j < s.size → bt s (j : Int) = 76 ∨ bt s (j : Int) = 82) ∧ s.size ≤ 6) → Ev (fun k => spec_IsFolds.l0 k s (i : Int)) b := by
    intro d
    induction d with
    | zero =>
      intro i hi b hb
      have e : b = decide ((s.size : Int) ≤ 6) := by
        rw [Bool.eq_iff_iff, hb, decide_eq_true_iff]
        exact ⟨fun h => by omega, fun h => ⟨fun j h1 h2 => by omega, by omega⟩⟩
      rw [e]
      exact Ev.step (f := fun _ => some (decide ((s.size : Int) ≤ 6))) (fun k => by rw [spec_IsFolds.l0, if_neg (by omega)]) (Ev.now _)
    | succ d ih =>
      intro i hi b hb
      by_cases h1 : bt s (i : Int) = 76 ∨ bt s (i : Int) = 82
      · have h2 := ih (i + 1) (by omega) b (by
          rw [hb]
          refine ⟨fun h => ⟨fun j a c => h.1 j (by omega) c, h.2⟩, fun h => ⟨fun j a c => ?_, h.2⟩⟩
          by_cases e : j = i
          · subst e; exact h1
          · exact h.1 j (by omega) c)
        refine Ev.step (fun k => ?_) h2
        rw [spec_IsFolds.l0, if_pos (by omega), if_pos (by omega), w64n i (by omega)]
        by_cases e : bt s (i : Int) = 76
        · rw [if_pos e]
        · rw [if_neg e, if_pos (by omega)]
      · obtain rfl : b = false := by
          rw [Bool.eq_false_iff]; intro h
          exact h1 ((hb.1 h).1 i (Nat.le_refl _) (by omega))
        refine Ev.step (f := fun _ => some false) (fun k => ?_) (Ev.now _)
        rw [spec_IsFolds.l0, if_pos (by omega), if_pos (by omega), if_neg (by omega), if_neg (by omega)]
  exact Ev.congr (fun k => rfl) (loop s.size 0 (by omega) _ (by unfold isF; rw [decide_eq_true_iff]; exact ⟨fun h => ⟨fun j _ c => h.1 j c, h.2⟩, fun h => ⟨fun j c => h.1 j (by omega) c, h.2⟩⟩))
theorem trim_nil (cs : List UInt8) : ∀ l : List UInt8, Go.Lib.trimS l cs = [] ↔ ∀ b ∈ l, cs.contains b = true := by
  have dw : ∀ l : List UInt8, l.dropWhile (cs.contains ·) = [] ↔ ∀ b ∈ l, cs.contains b = true := by
    intro l
    induction l with
    | nil => simp
    | cons a t ih =>
      rw [List.dropWhile_cons]
      by_cases h : cs.contains a = true
      · rw [if_pos h, ih]
        exact ⟨fun g b hb => by rcases List.mem_cons.1 hb with rfl | hb; exact h; exact g b hb, fun g b hb => g b (List.mem_cons_of_mem _ hb)⟩
      · rw [if_neg h]
        exact ⟨fun g => (List.cons_ne_nil _ _ g).elim, fun g => absurd (g a List.mem_cons_self) h⟩
  intro l
  unfold Go.Lib.trimS Go.Lib.trimLeftS
  rw [dw]
  unfold Go.Lib.trimRightS
  constructor
  · intro g
    have e : l.reverse.dropWhile (cs.contains ·) = [] := by
      cases hd : l.reverse.dropWhile (cs.contains ·) with
      | nil => rfl
      | cons a t =>
        have h1 := List.head?_dropWhile_not (cs.contains ·) l.reverse
        rw [hd] at h1 g
        have h2 := g a (by simp)
        simp only [List.head?_cons] at h1
        rw [h2] at h1
        cases h1
    intro b hb
    exact (dw l.reverse).1 e b (List.mem_reverse.2 hb)
  · intro g
    have e := (dw l.reverse).2 (fun b hb => g b (List.mem_reverse.1 hb))
    rw [e]
    intro b hb
    simp at hb
theorem bt_list (s : ByteArray) (i : Nat) (h : i < s.size) : bt s (i : Int) = ((s.data.toList[i]'(by simpa using h)).toNat : Int) := by
  unfold bt
  rw [dif_pos (by rw [Int.toNat_natCast]; exact h)]
  simp [ByteArray.getElem_eq_getElem_data]
theorem implIsFolds_eq (s : ByteArray) : impl_IsFolds.f s = some (isF s) := by
  unfold impl_IsFolds.f
  by_cases h : (s.size : Int) ≤ 6
  · rw [if_pos h]
    congr 1
    unfold isF
    rw [decide_eq_decide, trim_nil]
    constructor
    · intro g
      refine ⟨fun i hi => ?_, by omega⟩
      rw [bt_list s i hi]
      have := g _ (List.getElem_mem (l := s.data.toList) (n := i) (by simpa using hi))
      simp only [List.contains_cons, List.contains_nil, Bool.or_false, Bool.or_eq_true, beq_iff_eq] at this
      rcases this with e | e
      · rw [e]; left; rfl
      · rw [e]; right; rfl
    · rintro ⟨g, _⟩ b hb
      obtain ⟨i, hi, rfl⟩ := List.mem_iff_getElem.1 hb
      have hi' : i < s.size := by simpa using hi
      have := g i hi'
      rw [bt_list s i hi'] at this
      simp only [List.contains_cons, List.contains_nil, Bool.or_false, Bool.or_eq_true, beq_iff_eq]
      rcases this with e | e
      · left; apply UInt8.toNat_inj.1; exact Int.ofNat.inj e
      · right; apply UInt8.toNat_inj.1; exact Int.ofNat.inj e
  · rw [if_neg h]
    congr 1
    unfold isF
    symm
    rw [decide_eq_false_iff_not]
    rintro ⟨_, g⟩
    omega
def mkb (l : List UInt8) : ByteArray := ⟨l.toArray⟩
theorem mkb_list (l : List UInt8) : (mkb l).toList = l := by rw [ByteArray.toList_eq]; rfl
theorem mkb_size (l : List UInt8) : (mkb l).size = l.length := by show l.toArray.size = _; exact List.size_toArray
theorem mkb_append (a b : List UInt8) : mkb a ++ mkb b = mkb (a ++ b) := by
  apply ByteArray.ext
  rw [ByteArray.data_append]
  show a.toArray ++ b.toArray = (a ++ b).toArray
  simp
theorem mkb_of (s : ByteArray) : s = mkb s.data.toList := by
  apply ByteArray.ext
  show s.data = s.data.toList.toArray
  simp
def allW (p : List UInt8 → Bool) : Nat → Bool
  | 0 => p []
  | n + 1 => allW (fun l => p (76 :: l)) n && allW (fun l => p (82 :: l)) n
theorem allW_spec : ∀ (n : Nat) (p : List UInt8 → Bool), allW p n = true → ∀ l : List UInt8, l.length = n → (∀ c ∈ l, c = 76 ∨ c = 82) → p l = true
  | 0, p, h, l, hl, _ => by
    rw [List.length_eq_zero_iff] at hl
    rw [hl]; exact h
  | n + 1, p, h, l, hl, hc => by
    rw [allW, Bool.and_eq_true] at h
    cases l with
    | nil => simp at hl
    | cons c t =>
      have ht : t.length = n := by simpa using hl
      have hct : ∀ x ∈ t, x = 76 ∨ x = 82 := fun x hx => hc x (List.mem_cons_of_mem _ hx)
      rcases hc c List.mem_cons_self with rfl | rfl
      · exact allW_spec n _ h.1 t ht hct
      · exact allW_spec n _ h.2 t ht hct
def allF (p : List UInt8 → Bool) : Bool := allW p 0 && allW p 1 && allW p 2 && allW p 3 && allW p 4 && allW p 5 && allW p 6
theorem isF_list {s : ByteArray} (h : isF s = true) : s = mkb s.data.toList ∧ s.data.toList.length ≤ 6 ∧ ∀ c ∈ s.data.toList, c = 76 ∨ c = 82 := by
  unfold isF at h
  rw [decide_eq_true_iff] at h
  obtain ⟨h1, h2⟩ := h
  refine ⟨mkb_of s, by simpa using h2, fun c hc => ?_⟩
  obtain ⟨i, hi, rfl⟩ := List.mem_iff_getElem.1 hc
  have hi' : i < s.size := by simpa using hi
  have := h1 i hi'
  rw [bt_list s i hi'] at this
  rcases this with e | e
  · left; apply UInt8.toNat_inj.1; exact Int.ofNat.inj e
  · right; apply UInt8.toNat_inj.1; exact Int.ofNat.inj e
theorem allF_spec {p : List UInt8 → Bool} (h : allF p = true) {s : ByteArray} (hs : isF s = true) : p s.data.toList = true := by
  obtain ⟨_, hl, hc⟩ := isF_list hs
  unfold allF at h
  simp only [Bool.and_eq_true] at h
  obtain ⟨⟨⟨⟨⟨⟨h0, h1⟩, h2⟩, h3⟩, h4⟩, h5⟩, h6⟩ := h
  have : s.data.toList.length = 0 ∨ s.data.toList.length = 1 ∨ s.data.toList.length = 2 ∨ s.data.toList.length = 3 ∨ s.data.toList.length = 4 ∨ s.data.toList.length = 5 ∨ s.data.toList.length = 6 := by omega
  rcases this with e | e | e | e | e | e | e
  · exact allW_spec 0 p h0 _ e hc
  · exact allW_spec 1 p h1 _ e hc
  · exact allW_spec 2 p h2 _ e hc
  · exact allW_spec 3 p h3 _ e hc
  · exact allW_spec 4 p h4 _ e hc
  · exact allW_spec 5 p h5 _ e hc
  · exact allW_spec 6 p h6 _ e hc
def crK (l : List UInt8) : Bool := match impl_foldStrip.f 400 (mkb l), spec_CreasesOf.f 400 (mkb l) with
  | some a, some b => a.2.data.toList == b.1.data.toList && b.2 == 0
  | _, _ => false
theorem cr_fin : allF crK = true := by decide +kernel
theorem cr_two {s : ByteArray} (hs : isF s = true) : ∃ (st : List Int) (cr : ByteArray), Ev (fun k => impl_foldStrip.f k s) (st, cr) ∧ Ev (fun k => spec_CreasesOf.f k s) (cr, 0) := by
  have h := allF_spec cr_fin hs
  unfold crK at h
  rw [← (isF_list hs).1] at h
  cases e1 : impl_foldStrip.f 400 s with
  | none => rw [e1] at h; simp at h
  | some a =>
    cases e2 : spec_CreasesOf.f 400 s with
    | none => rw [e1, e2] at h; simp at h
    | some b =>
      rw [e1, e2] at h
      simp only [Bool.and_eq_true, beq_iff_eq] at h
      obtain ⟨h1, h2⟩ := h
      have e3 : a.2 = b.1 := by rw [mkb_of a.2, mkb_of b.1, h1]
      refine ⟨a.1, a.2, Ev.of (impl_foldStrip.mono _) e1, ?_⟩
      rw [e3, ← h2]
      exact Ev.of (spec_CreasesOf.mono _) e2
theorem crs_two (s : ByteArray) (hl : s.size ≤ 35184372088832) : (isF s = true ∧ ∃ st cr, Ev (fun k => impl_foldStrip.f k s) (st, cr) ∧ Ev (fun k => impl_CreasesOf.f k s) (cr, 0) ∧ Ev (fun k => spec_CreasesOf.f k s) (cr, 0)) ∨ (isF s = false ∧ Ev (fun k => impl_CreasesOf.f k s) ((⟨#[]⟩ : ByteArray), 1) ∧ Ev (fun k => spec_CreasesOf.f k s) ((⟨#[]⟩ : ByteArray), 1)) := by
  by_cases hf : isF s = true
  · obtain ⟨st, cr, h1, h2⟩ := cr_two hf
    refine .inl ⟨hf, st, cr, h1, ?_, h2⟩
    unfold impl_CreasesOf.f
    rw [implIsFolds_eq]
    simp only [Option.bind_some, if_pos hf]
    exact Ev.bind h1 (Ev.now _)
  · refine .inr ⟨by simpa using hf, ?_, ?_⟩
    · unfold impl_CreasesOf.f
      rw [implIsFolds_eq]
      simp only [Option.bind_some, if_neg hf]
      exact Ev.now _
    · unfold spec_CreasesOf.f
      exact Ev.bind (specIsFolds_ev s hl) (Ev_ite_f hf (Ev.now _))
def Src (c : List Int) (a s : Int) : Prop := c.length ≤ 4096 ∧ (∀ x ∈ c, 0 ≤ x ∧ x ≤ 255) ∧ 0 ≤ a ∧ a ≤ c.length ∧ 0 ≤ s ∧ s < 2147483647
theorem tmod_range {x m : Int} (h : 0 ≤ x) (hm : 0 < m) : 0 ≤ Int.tmod x m ∧ Int.tmod x m < m := ⟨Int.tmod_nonneg _ h, Int.tmod_lt_of_pos _ hm⟩
theorem rd_byte {c : List Int} (hc : ∀ x ∈ c, 0 ≤ x ∧ x ≤ 255) (i : Int) : 0 ≤ rd c i ∧ rd c i ≤ 255 := by
  unfold rd
  by_cases h : i.toNat < c.length
  · simp only [List.getD_eq_getElem?_getD, List.getElem?_eq_getElem h, Option.getD_some]
    exact hc _ (List.getElem_mem h)
  · simp only [List.getD_eq_getElem?_getD, List.getElem?_eq_none (Nat.le_of_not_lt h), Option.getD_none]
    omega
theorem next_ok {c : List Int} {a s : Int} (h : Src c a s) (n : Int) (hn : n ≤ 9000000000000000000) :
    ∃ r a' s', spec_l01Next.f c a s n = some (r, a', s') ∧ Src c a' s' ∧ 0 ≤ r ∧ (1 ≤ n → r < n) := by
  obtain ⟨h1, h2, h3, h4, h5, h6⟩ := h
  unfold spec_l01Next.f
  by_cases hn1 : n ≤ 1
  · rw [if_pos hn1]
    exact ⟨0, a, s, rfl, ⟨h1, h2, h3, h4, h5, h6⟩, by omega, by omega⟩
  · rw [if_neg hn1]
    have e1 : wrap64 (wrap64 (s * 48271) + 61) = s * 48271 + 61 := by rw [w64 (x := s * 48271) (by omega) (by omega), w64 (by omega) (by omega)]
    rw [e1]
    have m1 := tmod_range (x := s * 48271 + 61) (m := 2147483647) (by omega) (by omega)
    generalize Int.tmod (s * 48271 + 61) 2147483647 = s1 at *
    have d1 : 0 ≤ Int.tdiv s1 31 ∧ Int.tdiv s1 31 ≤ 2147483647 := by
      rw [Int.tdiv_eq_ediv_of_nonneg m1.1]; omega
    rw [w64 (x := Int.tdiv s1 31) (by omega) (by omega)]
    generalize Int.tdiv s1 31 = q at *
    by_cases ha : a < (c.length : Int)
    · have e2 : wrap64 (a + 1) = a + 1 := w64 (by omega) (by omega)
      have e3 : wrap64 (a + 1 - 1) = a := by rw [w64 (by omega) (by omega)]; omega
      have b1 := rd_byte h2 a
      rw [if_pos ha, if_pos h3, e2, e3, w64 (x := rd c a) (by omega) (by omega), w64 (x := q + rd c a) (by omega) (by omega)]
      have r1 := tmod_range (x := rd c a) (m := n) b1.1 (by omega)
      have r2 := tmod_range (x := q + rd c a) (m := n) (by omega) (by omega)
      have hs : Src c (a + 1) s1 := ⟨h1, h2, by omega, by omega, m1.1, m1.2⟩
      by_cases hb : n ≤ 256
      · rw [if_pos hb]
        by_cases hc : Int.tmod (a + 1) 2 = 0
        · rw [if_pos hc, if_pos h3, if_pos ha, if_neg (by omega)]
          exact ⟨_, _, _, rfl, hs, r1.1, fun _ => r1.2⟩
        · rw [if_neg hc, if_neg (by omega)]
          exact ⟨_, _, _, rfl, hs, r2.1, fun _ => r2.2⟩
      · rw [if_neg hb, if_neg (by omega)]
        exact ⟨_, _, _, rfl, hs, r2.1, fun _ => r2.2⟩
    · rw [if_neg ha, if_neg (by omega)]
      have r1 := tmod_range (x := q) (m := n) (by omega) (by omega)
      exact ⟨_, _, _, rfl, ⟨h1, h2, h3, h4, m1.1, m1.2⟩, r1.1, fun _ => r1.2⟩
theorem from_ok (c : List Int) (hc : c.length ≤ 4096) (hb : ∀ x ∈ c, 0 ≤ x ∧ x ≤ 255) : ∃ a s, Ev (fun k => spec_l01From.f k c) (c, a, s) ∧ Src c a s := by
  have loop : ∀ (d i : Nat), i + d = c.length → ∀ s : Int, 0 ≤ s → s < 2147483647 → ∃ s', 0 ≤ s' ∧ s' < 2147483647 ∧ Ev (fun k => spec_l01From.l0 k c (i : Int) c 0 s) (c, 0, s') := by
    intro d
    induction d with
    | zero =>
      intro i hi s h0 h1
      exact ⟨s, h0, h1, Ev.step (f := fun _ => some (c, 0, s)) (fun k => by rw [spec_l01From.l0, if_neg (by omega)]) (Ev.now _)⟩
    | succ d ih =>
      intro i hi s h0 h1
      by_cases h64 : i < 64
      · have b1 := rd_byte hb (i : Int)
        have e1 : wrap64 (wrap64 (s * 71) + wrap64 (rd c (i : Int))) = s * 71 + rd c (i : Int) := by
          rw [w64 (x := s * 71) (by omega) (by omega), w64 (x := rd c (i : Int)) (by omega) (by omega), w64 (by omega) (by omega)]
        have m1 := tmod_range (x := s * 71 + rd c (i : Int)) (m := 2147483647) (by omega) (by omega)
        obtain ⟨s', g0, g1, g2⟩ := ih (i + 1) (by omega) (Int.tmod (s * 71 + rd c (i : Int)) 2147483647) m1.1 m1.2
        refine ⟨s', g0, g1, Ev.step (fun k => ?_) g2⟩
        rw [spec_l01From.l0, if_pos (by omega), if_pos (by omega), if_pos (by omega), w64n i (by omega), e1]
      · exact ⟨s, h0, h1, Ev.step (f := fun _ => some (c, 0, s)) (fun k => by rw [spec_l01From.l0, if_pos (by omega), if_neg (by omega)]) (Ev.now _)⟩
  obtain ⟨s', g0, g1, g2⟩ := loop c.length 0 (by omega) 88007 (by omega) (by omega)
  exact ⟨0, s', Ev.congr (fun k => rfl) g2, hc, hb, by omega, by omega, g0, g1⟩
theorem strOf_size (l : List Int) : (strOfNums l).size = l.length := by
  show (List.map _ l).toArray.size = _
  simp
theorem drawFolds_ok {c : List Int} {a s : Int} (h0 : Src c a s) : ∃ t a' s', Ev (fun k => spec_l03Draw.f k c a s) (t, a', s') ∧ Src c a' s' ∧ t.size ≤ 7 := by
  obtain ⟨r, a1, s1, e1, h1, r0, r1⟩ := next_ok h0 7 (by omega)
  have r2 := r1 (by omega)
  have loop : ∀ (d : Nat) (x : List Int) (a s : Int), Src c a s → x.length + d ≤ 6 → ∃ t a' s', Ev (fun k => spec_l03Draw.l0 k x (d : Int) c a s) (t, a', s') ∧ Src c a' s' ∧ t.size ≤ 7 := by
    intro d
    induction d with
    | zero =>
      intro x a s h hx
      obtain ⟨m, a2, s2, e2, h2, m0, _⟩ := next_ok h 40 (by omega)
      have hz := strOf_size x
      by_cases m1 : m = 0
      · refine ⟨_, a2, s2, Ev.step (f := fun _ => some ((strOfNums x) ++ (⟨#[120]⟩ : ByteArray), a2, s2)) (fun k => ?_) (Ev.now _), h2, ?_⟩
        · rw [spec_l03Draw.l0, if_neg (by omega), e2]
          simp only [Option.bind_some]
          rw [if_pos m1, if_pos (by omega)]
        · rw [ByteArray.size_append]
          show (strOfNums x).size + 1 ≤ 7
          omega
      · by_cases m2 : m = 1
        · refine ⟨_, a2, s2, Ev.step (f := fun _ => some ((⟨#[76, 82, 76, 82, 76, 82, 76]⟩ : ByteArray), a2, s2)) (fun k => ?_) (Ev.now _), h2, Nat.le_refl _⟩
          rw [spec_l03Draw.l0, if_neg (by omega), e2]
          simp only [Option.bind_some]
          rw [if_neg m1, if_pos m2]
        · refine ⟨_, a2, s2, Ev.step (f := fun _ => some (strOfNums x, a2, s2)) (fun k => ?_) (Ev.now _), h2, by omega⟩
          rw [spec_l03Draw.l0, if_neg (by omega), e2]
          simp only [Option.bind_some]
          rw [if_neg m1, if_neg m2]
    | succ d ih =>
      intro x a s h hx
      obtain ⟨m, a2, s2, e2, h2, m0, m1⟩ := next_ok h 2 (by omega)
      have m2 := m1 (by omega)
      obtain ⟨t, a', s', g1, g2, g3⟩ := ih (x ++ [bt (⟨#[76, 82]⟩ : ByteArray) m]) a2 s2 h2 (by rw [List.length_append]; simp; omega)
      refine ⟨t, a', s', Ev.step (fun k => ?_) g1, g2, g3⟩
      rw [spec_l03Draw.l0, if_pos (by omega), e2]
      simp only [Option.bind_some]
      rw [if_pos m0, if_pos m2, if_pos (by omega), w64 (x := ((d + 1 : Nat) : Int) - 1) (by omega) (by omega)]
      congr 1
      omega
  obtain ⟨t, a', s', g1, g2, g3⟩ := loop r.toNat [] a1 s1 h1 (by simp; omega)
  refine ⟨t, a', s', ?_, g2, g3⟩
  unfold spec_l03Draw.f
  simp only [e1, Option.bind_some]
  rw [show r = ((r.toNat : Nat) : Int) by omega]
  exact g1
theorem ev_unique {α : Type} {g : Nat → Option α} {a b : α} (ha : Ev g a) (hb : Ev g b) : a = b := by
  obtain ⟨n, hn⟩ := ha
  obtain ⟨m, hm⟩ := hb
  exact Option.some.inj ((hn (max n m) (Nat.le_max_left _ _)).symm.trans (hm (max n m) (Nat.le_max_right _ _)))
def ccK (l : List UInt8) : Bool := match impl_foldStrip.f 400 (mkb l) with
  | some a => l == [] || (match laws_FnCreases.l0 100 (mkb l) a.2 0 0 with | some b => b | none => false)
  | none => false
theorem cc_fin : allF ccK = true := by decide +kernel
theorem FnCreases : laws_FnCreases.Pure := by
  intro c hc1 hc2 hw
  apply Ev.rounds
  unfold laws_FnCreases.f laws_big.f
  simp only [Option.bind_some, decide_eq_true_eq]
  by_cases hb : (c.length : Int) > 4096
  · exact Ev_ite_t hb (Ev.now _)
  · refine Ev_ite_f hb ?_
    obtain ⟨a, s, hf, h0⟩ := from_ok c (by omega) (fun x hx => wf8 (hw x hx))
    obtain ⟨t, a', s', h1, h2, h3⟩ := drawFolds_ok h0
    have hd : Ev (fun k => spec_DrawCreasesOf.f k c) t := by
      unfold spec_DrawCreasesOf.f
      exact Ev.bind hf (Ev.bind h1 (Ev.now _))
    refine Ev.bind hd ?_
    rcases crs_two t (by omega) with ⟨hF, st, cr, g0, g1, g2⟩ | ⟨_, g1, g2⟩
    · refine Ev.bind g1 (Ev.bind g2 (Ev_ite_t rfl ?_))
      have hk := allF_spec cc_fin hF
      unfold ccK at hk
      rw [← (isF_list hF).1] at hk
      cases e1 : impl_foldStrip.f 400 t with
      | none => rw [e1] at hk; simp at hk
      | some r =>
        have e2 := ev_unique (Ev.of (impl_foldStrip.mono _) e1) g0
        rw [e1, e2] at hk
        simp only at hk
        by_cases hn : t.data.toList = []
        · have ht : t.toList = [] := by rw [ByteArray.toList_eq]; exact hn
          refine Ev.step (fun k => by rw [laws_FnCreases.j0, if_neg (by simp), if_pos rfl]) ?_
          exact Ev.step (f := fun _ => some true) (fun k => by rw [laws_FnCreases.j1, if_pos (by simp [ht])]) (Ev.now _)
        · have ht : ¬ t.toList = [] := by rw [ByteArray.toList_eq]; exact hn
          cases e3 : laws_FnCreases.l0 100 t cr 0 0 with
          | none =>
            rw [e3, show (t.data.toList == []) = false from beq_false_of_ne hn] at hk
            exact absurd hk (by simp)
          | some b =>
            rw [e3, show (t.data.toList == []) = false from beq_false_of_ne hn] at hk
            have hb2 : b = true := by simpa using hk
            rw [hb2] at e3
            refine Ev.step (fun k => by rw [laws_FnCreases.j0, if_neg (by simp), if_pos rfl]) ?_
            exact Ev.step (fun k => by rw [laws_FnCreases.j1, if_neg (by simp [ht])]) (Ev.of (fun k => (laws_FnCreases.mono_l k).2.2 _ _ _ _) e3)
    · refine Ev.bind g1 (Ev.bind g2 (Ev_ite_t rfl ?_))
      refine Ev.step (fun k => by rw [laws_FnCreases.j0, if_neg (by simp), if_neg (by omega)]) ?_
      exact Ev.step (f := fun _ => some true) (fun k => by rw [laws_FnCreases.j1, if_pos rfl]) (Ev.now _)

end Go.Proofs.YtjlklieoibhblaaDoor.Pure
