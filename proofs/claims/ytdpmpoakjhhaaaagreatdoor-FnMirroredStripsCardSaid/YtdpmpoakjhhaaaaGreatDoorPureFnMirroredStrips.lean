/- The pure statement of FnMirroredStrips: for every input that the row lets in, the law's Lean function answers true; no further condition. -/
import Derived.Test.YtdpmpoakjhhaaaaGreatDoorQFnMirroredStripsx8
set_option linter.unusedVariables false
set_option linter.unusedSimpArgs false
namespace Go.Proofs.YtdpmpoakjhhaaaaGreatDoor.Pure
open Go.RowKit Go.Proofs.YtdpmpoakjhhaaaaGreatDoor.QFnMirroredStrips Go.Proofs.YtdpmpoakjhhaaaaGreatDoorW.PrintWords Go.Proofs.YtdpmpoakjhhaaaaGreatDoorW.PrintLast

theorem w64 {x : Int} (h0 : -9223372036854775808 ≤ x) (h1 : x ≤ 9223372036854775807) : wrap64 x = x := by unfold wrap64; omega
theorem wf8 {x : Int} (h : (Lit.int .u8 x).wf = true) : 0 ≤ x ∧ x ≤ 255 := by
  have h' : (decide (IntKind.u8.min ≤ x) && decide (x ≤ IntKind.u8.max)) = true := h
  simp only [Bool.and_eq_true, decide_eq_true_eq] at h'
  exact h'
theorem rd_get {xs : List Int} {i : Nat} (h : i < xs.length) : rd xs (i : Int) = xs[i] := by
  simp [rd, List.getD_eq_getElem?_getD, h]
theorem rd_nat (xs : List Int) (i : Nat) : rd xs (i : Int) = xs.getD i 0 := by simp [rd]
theorem rd_mem {xs : List Int} {i : Nat} (h : i < xs.length) : rd xs (i : Int) ∈ xs := by rw [rd_get h]; exact List.getElem_mem h
theorem rd_take {xs : List Int} {i j : Nat} (h : j < i) : rd (xs.take i) (j : Int) = rd xs (j : Int) := by
  simp [rd_nat, List.getD_eq_getElem?_getD, List.getElem?_take, h]
theorem toNat_cast (i : Nat) : ((i : Nat) : Int).toNat = i := Int.toNat_natCast i
theorem drop_cons {xs : List Int} {i : Nat} (h : i < xs.length) : xs.drop i = rd xs (i : Int) :: xs.drop (i + 1) := by
  rw [rd_get h]; exact List.drop_eq_getElem_cons h
theorem Ev_ite_t {α : Type} {c : Prop} [Decidable c] {f g : Nat → Option α} {r : α} (h : c) (k : Ev f r) : Ev (fun n => if c then f n else g n) r :=
  Ev.congr (fun _ => if_pos h) k
theorem Ev_ite_f {α : Type} {c : Prop} [Decidable c] {f g : Nat → Option α} {r : α} (h : ¬ c) (k : Ev g r) : Ev (fun n => if c then f n else g n) r :=
  Ev.congr (fun _ => if_neg h) k
theorem w64n (i : Nat) (h : i < 9223372036854775807) : wrap64 ((i : Int) + 1) = ((i + 1 : Nat) : Int) := by
  rw [w64 (by omega) (by omega)]; rfl
def isF (s : ByteArray) : Bool := decide ((∀ i : Nat, i < s.size → bt s (i : Int) = 76 ∨ bt s (i : Int) = 82) ∧ s.size ≤ 6)
theorem bt_list (s : ByteArray) (i : Nat) (h : i < s.size) : bt s (i : Int) = ((s.data.toList[i]'(by simpa using h)).toNat : Int) := by
  unfold bt
  rw [dif_pos (by rw [Int.toNat_natCast]; exact h)]
  simp [ByteArray.getElem_eq_getElem_data]
theorem trim_nil (cs : List UInt8) : ∀ l : List UInt8, Go.Lib.trimS l cs = [] ↔ ∀ b ∈ l, cs.contains b = true := by
  have dw : ∀ l : List UInt8, l.dropWhile (cs.contains ·) = [] ↔ ∀ b ∈ l, cs.contains b = true := by
    intro l
    induction l with
    | nil => simp
    | cons a t ih =>
      rw [List.dropWhile_cons]
      by_cases h : cs.contains a = true
      · rw [if_pos h, ih]
        exact ⟨fun g b hb => by rcases List.mem_cons.1 hb with rfl | hb; exact h; exact g b hb, fun g b hb => g b (List.mem_cons_of_mem _ hb)⟩
      · rw [if_neg h]
        exact ⟨fun g => (List.cons_ne_nil _ _ g).elim, fun g => absurd (g a List.mem_cons_self) h⟩
  intro l
  unfold Go.Lib.trimS Go.Lib.trimLeftS
  rw [dw]
  unfold Go.Lib.trimRightS
  constructor
  · intro g
    have e : l.reverse.dropWhile (cs.contains ·) = [] := by
      cases hd : l.reverse.dropWhile (cs.contains ·) with
      | nil => rfl
      | cons a t =>
        have h1 := List.head?_dropWhile_not (cs.contains ·) l.reverse
        rw [hd] at h1 g
        have h2 := g a (by simp)
        simp only [List.head?_cons] at h1
        rw [h2] at h1
        cases h1
    intro b hb
    exact (dw l.reverse).1 e b (List.mem_reverse.2 hb)
  · intro g
    have e := (dw l.reverse).2 (fun b hb => g b (List.mem_reverse.1 hb))
    rw [e]
    intro b hb
    simp at hb
theorem specIsFolds_ev (s : ByteArray) (hl : s.size ≤ 35184372088832) : Ev (fun k => spec_IsFolds.f k s) (isF s) := by
  have loop : ∀ (d i : Nat), i + d = s.size → ∀ b : Bool, (b = true ↔ (∀ j : Nat, i ≤ j → j < s.size → bt s (j : Int) = 76 ∨ bt s (j : Int) = 82) ∧ s.size ≤ 6) → Ev (fun k => spec_IsFolds.l0 k s (i : Int)) b := by
    intro d
    induction d with
    | zero =>
      intro i hi b hb
      have e : b = decide ((s.size : Int) ≤ 6) := by
        rw [Bool.eq_iff_iff, hb, decide_eq_true_iff]
        exact ⟨fun h => by omega, fun h => ⟨fun j h1 h2 => by omega, by omega⟩⟩
      rw [e]
      exact Ev.step (f := fun _ => some (decide ((s.size : Int) ≤ 6))) (fun k => by rw [spec_IsFolds.l0, if_neg (by omega)]) (Ev.now _)
    | succ d ih =>
      intro i hi b hb
      by_cases h1 : bt s (i : Int) = 76 ∨ bt s (i : Int) = 82
      · have h2 := ih (i + 1) (by omega) b (by
          rw [hb]
          refine ⟨fun h => ⟨fun j a c => h.1 j (by omega) c, h.2⟩, fun h => ⟨fun j a c => ?_, h.2⟩⟩
          by_cases e : j = i
          · subst e; exact h1
          · exact h.1 j (by omega) c)
        refine Ev.step (fun k => ?_) h2
        rw [spec_IsFolds.l0, if_pos (by omega), if_pos (by omega), w64n i (by omega)]
        by_cases e : bt s (i : Int) = 76
        · rw [if_pos e]
        · rw [if_neg e, if_pos (by omega)]
      · obtain rfl : b = false := by
          rw [Bool.eq_false_iff]; intro h
          exact h1 ((hb.1 h).1 i (Nat.le_refl _) (by omega))
        refine Ev.step (f := fun _ => some false) (fun k => ?_) (Ev.now _)
        rw [spec_IsFolds.l0, if_pos (by omega), if_pos (by omega), if_neg (by omega), if_neg (by omega)]
  exact Ev.congr (fun k => rfl) (loop s.size 0 (by omega) _ (by unfold isF; rw [decide_eq_true_iff]; exact ⟨fun h => ⟨fun j _ c => h.1 j c, h.2⟩, fun h => ⟨fun j c => h.1 j (by omega) c, h.2⟩⟩))
theorem implIsFolds_eq (s : ByteArray) : impl_IsFolds.f s = some (isF s) := by
  unfold impl_IsFolds.f
  by_cases h : (s.size : Int) ≤ 6
  · rw [if_pos h]
    congr 1
    unfold isF
    rw [decide_eq_decide, trim_nil]
    constructor
    · intro g
      refine ⟨fun i hi => ?_, by omega⟩
      rw [bt_list s i hi]
      have := g _ (List.getElem_mem (l := s.data.toList) (n := i) (by simpa using hi))
      simp only [List.contains_cons, List.contains_nil, Bool.or_false, Bool.or_eq_true, beq_iff_eq] at this
      rcases this with e | e
      · rw [e]; left; rfl
      · rw [e]; right; rfl
    · rintro ⟨g, _⟩ b hb
      obtain ⟨i, hi, rfl⟩ := List.mem_iff_getElem.1 hb
      have hi' : i < s.size := by simpa using hi
      have := g i hi'
      rw [bt_list s i hi'] at this
      simp only [List.contains_cons, List.contains_nil, Bool.or_false, Bool.or_eq_true, beq_iff_eq]
      rcases this with e | e
      · left; apply UInt8.toNat_inj.1; exact Int.ofNat.inj e
      · right; apply UInt8.toNat_inj.1; exact Int.ofNat.inj e
  · rw [if_neg h]
    congr 1
    unfold isF
    symm
    rw [decide_eq_false_iff_not]
    rintro ⟨_, g⟩
    omega
def mirT (s : ByteArray) : ByteArray := ⟨(s.data.toList.map miSw).toArray⟩
theorem miSw_76 : miSw 76 = 82 := by decide
theorem miSw_82 : miSw 82 = 76 := by decide
theorem strOfNums_map (l : List UInt8) : strOfNums (l.map fun c => (c.toNat : Int)) = ⟨l.toArray⟩ := by
  unfold strOfNums
  simp [List.map_map, Function.comp_def]
theorem char_eq {s : ByteArray} {i : Nat} (h : i < s.size) {c : UInt8} (e : bt s (i : Int) = (c.toNat : Int)) : s.data.toList[i]'(by simpa using h) = c := by
  rw [bt_list s i h] at e
  exact UInt8.toNat_inj.1 (Int.ofNat.inj e)
theorem mirror_spec {s : ByteArray} (hf : isF s = true) : Ev (fun k => spec_MirrorFolds.f k s) (mirT s, 0) := by
  have hc := of_decide_eq_true hf
  have loop : ∀ (d i : Nat), i + d = s.size → Ev (fun k => spec_MirrorFolds.l0 k s ((s.data.toList.take i).map fun c => ((miSw c).toNat : Int)) (i : Int)) (mirT s, 0) := by
    intro d
    induction d with
    | zero =>
      intro i hi
      refine Ev.step (f := fun _ => some (mirT s, 0)) (fun k => ?_) (Ev.now _)
      rw [spec_MirrorFolds.l0, if_neg (by omega)]
      congr 1
      congr 1
      have e : s.data.toList.take i = s.data.toList := List.take_of_length_le (by simp; show s.size ≤ i; omega)
      rw [e]
      have := strOfNums_map (s.data.toList.map miSw)
      rw [List.map_map] at this
      exact this
    | succ d ih =>
      intro i hi
      have hi' : i < s.data.toList.length := by simp; show i < s.size; omega
      have h2 := ih (i + 1) (by omega)
      rw [List.take_add_one, List.getElem?_eq_getElem hi', List.map_append] at h2
      simp only [Option.toList_some, List.map_cons, List.map_nil] at h2
      refine Ev.step (fun k => ?_) h2
      have hlen : ((s.data.toList.take i).map fun c => ((miSw c).toNat : Int)).length < 140737488355328 := by
        rw [List.length_map, List.length_take]; omega
      rw [spec_MirrorFolds.l0, if_pos (by omega), if_pos (by omega), w64n i (by omega)]
      by_cases e : bt s (i : Int) = 76
      · rw [if_pos e, if_pos hlen, char_eq (by omega) (c := 76) e, miSw_76]
        rfl
      · have e2 : bt s (i : Int) = 82 := by rcases hc.1 i (by omega) with h | h; exact absurd h e; exact h
        rw [if_neg e, if_pos hlen, char_eq (by omega) (c := 82) e2, miSw_82]
        rfl
  unfold spec_MirrorFolds.f
  exact Ev.bind (specIsFolds_ev s (by omega)) (Ev_ite_t hf (Ev.congr (fun k => rfl) (loop s.size 0 (by omega))))
theorem mirror_bad {s : ByteArray} (hl : s.size ≤ 35184372088832) (hf : ¬ isF s = true) : Ev (fun k => spec_MirrorFolds.f k s) (⟨#[]⟩, 1) := by
  unfold spec_MirrorFolds.f
  exact Ev.bind (specIsFolds_ev s hl) (Ev_ite_f hf (Ev.now _))
theorem mirror_impl {s : ByteArray} (hf : isF s = true) : impl_MirrorFolds.f s = some (mirT s, 0) := by
  have hc := (of_decide_eq_true hf).2
  unfold impl_MirrorFolds.f
  rw [implIsFolds_eq]
  simp only [Option.bind_some, if_pos hf]
  unfold impl_mirrored.f
  rw [if_pos (by omega)]
  rfl
theorem mirror_impl_bad {s : ByteArray} (hf : ¬ isF s = true) : impl_MirrorFolds.f s = some (⟨#[]⟩, 1) := by
  unfold impl_MirrorFolds.f
  rw [implIsFolds_eq]
  simp only [Option.bind_some, if_neg hf]
theorem l01Has_ev (l : List Int) (x : Int) (hl : l.length ≤ 35184372088832) : Ev (fun k => spec_l01Has.f k l x) (decide (x ∈ l)) := by
  have loop : ∀ (d i : Nat), i + d = l.length → Ev (fun k => spec_l01Has.l0 k l x (i : Int)) (decide (x ∈ l.drop i)) := by
    intro d
    induction d with
    | zero =>
      intro i hi
      have e : decide (x ∈ l.drop i) = false := by rw [List.drop_of_length_le (by omega)]; simp
      rw [e]
      exact Ev.step (f := fun _ => some false) (fun k => by rw [spec_l01Has.l0, if_neg (by omega)]) (Ev.now _)
    | succ d ih =>
      intro i hi
      by_cases e : rd l (i : Int) = x
      · have e1 : decide (x ∈ l.drop i) = true := by rw [drop_cons (by omega)]; simp [e]
        rw [e1]
        exact Ev.step (f := fun _ => some true) (fun k => by rw [spec_l01Has.l0, if_pos (by omega), if_pos (by omega), if_pos e]) (Ev.now _)
      · have e1 : decide (x ∈ l.drop i) = decide (x ∈ l.drop (i + 1)) := by rw [drop_cons (by omega)]; simp [Ne.symm e]
        rw [e1]
        exact Ev.step (fun k => by rw [spec_l01Has.l0, if_pos (by omega), if_pos (by omega), if_neg e, w64n i (by omega)]) (ih (i + 1) (by omega))
  have := loop l.length 0 (by omega)
  rw [List.drop_zero] at this
  exact Ev.congr (fun k => rfl) this
theorem l01In_eq (n a b : Int) : spec_l01In.f n a b = some (decide (a ≤ n ∧ n ≤ b)) := by
  unfold spec_l01In.f
  by_cases h : n ≥ a
  · rw [if_pos h]; simp [show a ≤ n from h]
  · rw [if_neg h]; simp [show ¬ a ≤ n from h]
theorem inRange_eq (n a b : Int) : impl_inRange.f n a b = some (decide (a ≤ n ∧ n ≤ b)) := by
  unfold impl_inRange.f
  by_cases h : a ≤ n
  · rw [if_pos h]; simp [h]
  · rw [if_neg h]; simp [h]
def ordP (p : List Int) (i : Nat) : Prop := ∀ j : Nat, i ≤ j → j < p.length → 0 ≤ rd p (j : Int) ∧ rd p (j : Int) < p.length ∧ ∀ t : Nat, t < j → rd p (t : Int) ≠ rd p (j : Int)
theorem ordP_end {p : List Int} {i : Nat} (h : p.length ≤ i) : ordP p i := fun j hj hl => by omega
theorem ordP_succ {p : List Int} {i : Nat} (h : i < p.length) : ordP p i ↔ (0 ≤ rd p (i : Int) ∧ rd p (i : Int) < p.length ∧ ∀ t : Nat, t < i → rd p (t : Int) ≠ rd p (i : Int)) ∧ ordP p (i + 1) := by
  constructor
  · intro H
    exact ⟨H i (Nat.le_refl _) h, fun j hj hl => H j (by omega) hl⟩
  · rintro ⟨h1, h2⟩ j hj hl
    by_cases e : i = j
    · subst e; exact h1
    · exact h2 j (by omega) hl
noncomputable def isOrd (p : List Int) : Bool := @decide (p.length ≤ 64 ∧ ordP p 0) (Classical.propDecidable _)
theorem isOrd_iff {p : List Int} : isOrd p = true ↔ p.length ≤ 64 ∧ ordP p 0 := by unfold isOrd; exact @decide_eq_true_iff _ (Classical.propDecidable _)
theorem mem_take_iff (p : List Int) (i : Nat) (hi : i ≤ p.length) (x : Int) : x ∈ p.take i ↔ ∃ t : Nat, t < i ∧ rd p (t : Int) = x := by
  constructor
  · intro h
    obtain ⟨t, ht, e⟩ := List.mem_iff_getElem.1 h
    rw [List.length_take] at ht
    refine ⟨t, by omega, ?_⟩
    rw [rd_get (by omega), ← e, List.getElem_take]
  · rintro ⟨t, ht, e⟩
    rw [← e, ← rd_take ht]
    exact rd_mem (by rw [List.length_take]; omega)
theorem specIsOrder_ev (p : List Int) (hl : p.length ≤ 35184372088832) : Ev (fun k => spec_IsOrder.f k p) (isOrd p) := by
  have loop : ∀ (d i : Nat), i + d = p.length → ∀ b : Bool, (b = true ↔ p.length ≤ 64 ∧ ordP p i) → Ev (fun k => spec_IsOrder.l0 k p (i : Int)) b := by
    intro d
    induction d with
    | zero =>
      intro i hi b hb
      have e : b = decide ((p.length : Int) ≤ 64) := by
        rw [Bool.eq_iff_iff, hb, decide_eq_true_iff]
        constructor
        · rintro ⟨h, _⟩; omega
        · intro h; exact ⟨by omega, ordP_end (by omega)⟩
      rw [e]
      exact Ev.step (f := fun _ => some (decide ((p.length : Int) ≤ 64))) (fun k => by rw [spec_IsOrder.l0, if_neg (by omega)]) (Ev.now _)
    | succ d ih =>
      intro i hi b hb
      have hs := ordP_succ (p := p) (i := i) (by omega)
      refine Ev.step (f := fun k => (some (decide (0 ≤ rd p (i : Int) ∧ rd p (i : Int) ≤ (p.length : Int) - 1))).bind fun t => if t = true then (spec_l01Has.f k (p.take i) (rd p (i : Int))).bind fun t => if t = true then some false else spec_IsOrder.l0 k p ((i + 1 : Nat) : Int) else some false) (fun k => by
        rw [spec_IsOrder.l0, if_pos (by omega), if_pos (by omega), l01In_eq, w64 (x := (p.length : Int) - 1) (by omega) (by omega), w64n i (by omega), toNat_cast]
        simp only [Option.bind_some]
        rw [if_pos (show (i : Int) ≤ (p.length : Int) by omega)]) ?_
      simp only [Option.bind_some, decide_eq_true_eq]
      by_cases h1 : 0 ≤ rd p (i : Int) ∧ rd p (i : Int) ≤ (p.length : Int) - 1
      · refine Ev_ite_t h1 (Ev.bind (l01Has_ev (p.take i) (rd p (i : Int)) (by rw [List.length_take]; omega)) ?_)
        simp only [decide_eq_true_eq]
        by_cases h2 : rd p (i : Int) ∈ p.take i
        · obtain ⟨t, ht, e⟩ := (mem_take_iff p i (by omega) _).1 h2
          obtain rfl : b = false := by
            rw [Bool.eq_false_iff]; intro hbt
            exact (hs.1 (hb.1 hbt).2).1.2.2 t ht e
          exact Ev_ite_t h2 (Ev.now _)
        · refine Ev_ite_f h2 (ih (i + 1) (by omega) b ?_)
          rw [hb, hs]
          constructor
          · rintro ⟨a, _, c⟩; exact ⟨a, c⟩
          · rintro ⟨a, c⟩
            refine ⟨a, ⟨h1.1, by omega, fun t ht e => h2 ((mem_take_iff p i (by omega) _).2 ⟨t, ht, e⟩)⟩, c⟩
      · obtain rfl : b = false := by
          rw [Bool.eq_false_iff]; intro hbt
          have := (hs.1 (hb.1 hbt).2).1
          exact h1 ⟨this.1, by omega⟩
        exact Ev_ite_f h1 (Ev.now _)
  exact Ev.congr (fun k => rfl) (loop p.length 0 (by omega) _ isOrd_iff)
theorem rdOf_set {α : Type} {z : α} {xs : List α} {i j : Nat} {v : α} (hi : i < xs.length) : rdOf z (xs.set i v) (j : Int) = if i = j then v else rdOf z xs (j : Int) := by
  simp only [rdOf, toNat_cast, List.getD_eq_getElem?_getD, List.getElem?_set]
  by_cases h : i = j
  · subst h; simp [hi]
  · simp [h]
theorem implIsOrder_ev (p : List Int) (hl : p.length ≤ 35184372088832) : Ev (fun k => impl_IsOrder.f k p) (isOrd p) := by
  by_cases h64 : p.length ≤ 64
  · have loop : ∀ (d i : Nat), i + d = p.length → ∀ seen : List Bool, seen.length = p.length → (∀ v : Nat, v < p.length → (rdOf false seen (v : Int) = true ↔ ∃ t : Nat, t < i ∧ rd p (t : Int) = v)) →
        ∀ b : Bool, (b = true ↔ ordP p i) → Ev (fun k => impl_IsOrder.l0 k p seen p (p.length : Int) (i : Int)) b := by
      intro d
      induction d with
      | zero =>
        intro i hi seen _ _ b hb
        obtain rfl : b = true := hb.2 (ordP_end (by omega))
        exact Ev.step (f := fun _ => some true) (fun k => by rw [impl_IsOrder.l0, if_neg (by omega)]) (Ev.now _)
      | succ d ih =>
        intro i hi seen hsl hseen b hb
        have hs := ordP_succ (p := p) (i := i) (by omega)
        refine Ev.step (f := fun k => (some (decide (0 ≤ rd p (i : Int) ∧ rd p (i : Int) ≤ (p.length : Int) - 1))).bind fun t => if t = true then (if 0 ≤ rd p (i : Int) then (if rd p (i : Int) < (seen.length : Int) then (if rdOf false seen (rd p (i : Int)) = true then some false else impl_IsOrder.l0 k p (seen.set (rd p (i : Int)).toNat true) p (p.length : Int) ((i + 1 : Nat) : Int)) else none) else none) else some false) (fun k => by
          rw [impl_IsOrder.l0, if_pos (by omega), if_pos (by omega), if_pos (by omega), impl_length_int64.f]
          simp only [Option.bind_some]
          rw [inRange_eq, w64 (x := (p.length : Int) - 1) (by omega) (by omega), w64n i (by omega)]; rfl) ?_
        simp only [Option.bind_some, decide_eq_true_eq]
        by_cases h1 : 0 ≤ rd p (i : Int) ∧ rd p (i : Int) ≤ (p.length : Int) - 1
        · obtain ⟨v, hv⟩ := Int.eq_ofNat_of_zero_le h1.1
          refine Ev_ite_t h1 (Ev_ite_t h1.1 (Ev_ite_t (by omega) ?_))
          rw [hv, toNat_cast]
          rw [hv] at h1 hs
          have hsv := hseen v (by omega)
          by_cases h2 : rdOf false seen (v : Int) = true
          · obtain ⟨t, ht, e⟩ := hsv.1 h2
            obtain rfl : b = false := by
              rw [Bool.eq_false_iff]; intro hbt
              exact (hs.1 (hb.1 hbt)).1.2.2 t ht e
            exact Ev_ite_t h2 (Ev.now _)
          · refine Ev_ite_f h2 (ih (i + 1) (by omega) _ (by rw [List.length_set]; exact hsl) (fun u hu => ?_) b ?_)
            · rw [rdOf_set (by omega)]
              by_cases e : v = u
              · subst e
                simp only [if_true, true_iff]
                exact ⟨i, by omega, hv⟩
              · rw [if_neg e, hseen u hu]
                constructor
                · rintro ⟨t, ht, et⟩; exact ⟨t, by omega, et⟩
                · rintro ⟨t, ht, et⟩
                  by_cases e2 : t = i
                  · subst e2; rw [hv] at et; omega
                  · exact ⟨t, by omega, et⟩
            · rw [hb, hs]
              constructor
              · rintro ⟨_, c⟩; exact c
              · intro c
                refine ⟨⟨h1.1, by omega, fun t ht e => h2 (hsv.2 ⟨t, ht, e⟩)⟩, c⟩
        · obtain rfl : b = false := by
            rw [Bool.eq_false_iff]; intro hbt
            have := (hs.1 (hb.1 hbt)).1
            exact h1 ⟨this.1, by omega⟩
          exact Ev_ite_f h1 (Ev.now _)
    refine Ev.congr (fun k => ?_) (loop p.length 0 (by omega) (List.replicate p.length false) (by simp) (fun v hv => ?_) (isOrd p) (by rw [isOrd_iff]; exact ⟨fun h => h.2, fun h => ⟨h64, h⟩⟩))
    · simp only [impl_IsOrder.f, toNat_cast]
      rw [if_neg (by omega), if_pos (by omega), if_pos (by omega)]
      rfl
    · constructor
      · intro h; simp [rdOf, List.getD_eq_getElem?_getD, List.getElem?_replicate, hv] at h
      · rintro ⟨t, ht, _⟩; omega
  · obtain e : isOrd p = false := by
      rw [Bool.eq_false_iff]; intro h; exact h64 (isOrd_iff.1 h).1
    rw [e]
    refine Ev.congr (f := fun _ => some false) (fun k => ?_) (Ev.now _)
    simp only [impl_IsOrder.f]
    rw [if_pos (by omega)]
def turnL (l : List Int) : List Int := (l.map fun x => wrap64 (-x)).reverse
theorem turn_gen (F : Nat → List Int → List Int → Int → Option (List Int)) (hF : ∀ k x0 x3 x4, F (k + 1) x0 x3 x4 = if x4 ≥ 0 then (if 0 ≤ x4 then (if x4 < (x0.length : Int) then (if x3.length < 17592186044416 then (F k x0 (x3 ++ [wrap64 (-(rd x0 x4))]) (wrap64 (x4 - 1))) else (none)) else (none)) else (none)) else (some x3)) (l : List Int) (hl : l.length ≤ 8796093022208) : Ev (fun k => F k l [] (wrap64 ((l.length : Int) - 1))) (turnL l) := by
  have loop : ∀ (m : Nat), m ≤ l.length → ∀ acc : List Int, acc.length + m ≤ l.length → Ev (fun k => F k l acc ((m : Int) - 1)) (acc ++ turnL (l.take m)) := by
    intro m
    induction m with
    | zero =>
      intro _ acc _
      have e : acc ++ turnL (l.take 0) = acc := by simp [turnL]
      rw [e]
      exact Ev.step (f := fun _ => some acc) (fun k => by rw [hF, if_neg (by omega)]) (Ev.now _)
    | succ m ih =>
      intro hm acc ha
      have e : acc ++ turnL (l.take (m + 1)) = (acc ++ [wrap64 (-(rd l (m : Int)))]) ++ turnL (l.take m) := by
        unfold turnL
        rw [List.take_succ_eq_append_getElem (show m < l.length by omega), List.map_append, List.reverse_append, rd_get (show m < l.length by omega), List.append_assoc]
        rfl
      rw [e]
      refine Ev.step (fun k => ?_) (ih (by omega) (acc ++ [wrap64 (-(rd l (m : Int)))]) (by rw [List.length_append, List.length_singleton]; omega))
      have e2 : ((m + 1 : Nat) : Int) - 1 = (m : Int) := by omega
      rw [e2, hF, if_pos (by omega), if_pos (by omega), if_pos (by omega), if_pos (by omega), w64 (x := (m : Int) - 1) (by omega) (by omega)]
  have h := loop l.length (Nat.le_refl _) [] (by simp)
  rw [List.nil_append, List.take_length] at h
  rw [w64 (x := (l.length : Int) - 1) (by omega) (by omega)]
  exact h
theorem turnL_len (l : List Int) : (turnL l).length = l.length := by simp [turnL]
def plc (x : Int) : Int := wrap64 (mx x (wrap64 (-x)) - 1)
theorem stack_both (l : List Int) (hl : l.length ≤ 8796093022208) : ∃ b : Bool, Ev (fun k => spec_l03List.f k l) b ∧ Ev (fun k => impl_isStack.f k l) b ∧ (b = true → (∀ x ∈ l, -64 ≤ x ∧ x ≤ 64) ∧ 0 < l.length ∧ isOrd (l.map plc) = true) := by
  have loop : ∀ (d i : Nat), i + d = l.length → (∀ j : Nat, j < i → -64 ≤ rd l (j : Int) ∧ rd l (j : Int) ≤ 64) → ∃ b : Bool, Ev (fun k => spec_l03List.l0 k l ((l.take i).map plc) (i : Int)) b ∧ Ev (fun k => impl_isStack.l0 k l ((l.take i).map plc) l (l.length : Int) (i : Int)) b ∧
      (b = true → (∀ j : Nat, j < l.length → -64 ≤ rd l (j : Int) ∧ rd l (j : Int) ≤ 64) ∧ 0 < l.length ∧ isOrd (l.map plc) = true) := by
    intro d
    induction d with
    | zero =>
      intro i hi hr
      obtain rfl : i = l.length := by omega
      rw [List.take_length]
      have lm : (l.map plc).length = l.length := by simp
      by_cases h0 : (l.length : Int) > 0
      · refine ⟨isOrd (l.map plc), ?_, ?_, fun h => ⟨hr, by omega, h⟩⟩
        · exact Ev.step (f := fun k => (spec_IsOrder.f k (l.map plc)).bind fun t => some t) (fun k => by rw [spec_l03List.l0, if_neg (by omega), if_pos h0]) (Ev.bind (specIsOrder_ev _ (by omega)) (Ev.now _))
        · exact Ev.step (f := fun k => (impl_IsOrder.f k (l.map plc)).bind fun t => some t) (fun k => by rw [impl_isStack.l0, if_neg (by omega), if_pos h0]) (Ev.bind (implIsOrder_ev _ (by omega)) (Ev.now _))
      · exact ⟨false, Ev.step (f := fun _ => some false) (fun k => by rw [spec_l03List.l0, if_neg (by omega), if_neg h0]) (Ev.now _), Ev.step (f := fun _ => some false) (fun k => by rw [impl_isStack.l0, if_neg (by omega), if_neg h0]) (Ev.now _), fun h => by cases h⟩
    | succ d ih =>
      intro i hi hr
      have lt : ((l.take i).map plc).length = i := by rw [List.length_map, List.length_take]; omega
      by_cases h : -64 ≤ rd l (i : Int) ∧ rd l (i : Int) ≤ 64
      · obtain ⟨b, h1, h2, h3⟩ := ih (i + 1) (by omega) (fun j hj => by
          by_cases e : j = i
          · subst e; exact h
          · exact hr j (by omega))
        have e : (l.take (i + 1)).map plc = (l.take i).map plc ++ [wrap64 (mx (rd l (i : Int)) (wrap64 (-(rd l (i : Int)))) - 1)] := by
          rw [List.take_succ_eq_append_getElem (show i < l.length by omega), List.map_append, rd_get (show i < l.length by omega)]
          rfl
        rw [e] at h1 h2
        refine ⟨b, Ev.step (fun k => ?_) h1, Ev.step (fun k => ?_) h2, h3⟩
        · rw [spec_l03List.l0, if_pos (by omega), if_pos (by omega), l01In_eq]
          simp only [Option.bind_some, decide_eq_true_eq]
          rw [if_pos h, if_pos (by omega), w64n i (by omega)]
        · rw [impl_isStack.l0, if_pos (by omega), if_pos (by omega), if_pos (by omega), inRange_eq]
          simp only [Option.bind_some, decide_eq_true_eq]
          rw [if_pos h, if_pos (by omega), w64n i (by omega)]
      · refine ⟨false, Ev.step (f := fun _ => some false) (fun k => ?_) (Ev.now _), Ev.step (f := fun _ => some false) (fun k => ?_) (Ev.now _), fun h => by cases h⟩
        · rw [spec_l03List.l0, if_pos (by omega), if_pos (by omega), l01In_eq]
          simp only [Option.bind_some, decide_eq_true_eq]
          rw [if_neg h]
        · rw [impl_isStack.l0, if_pos (by omega), if_pos (by omega), if_pos (by omega), inRange_eq]
          simp only [Option.bind_some, decide_eq_true_eq]
          rw [if_neg h]
  obtain ⟨b, h1, h2, h3⟩ := loop l.length 0 (by omega) (fun j hj => by omega)
  refine ⟨b, Ev.congr (fun k => rfl) h1, Ev.congr (fun k => rfl) h2, fun h => ?_⟩
  obtain ⟨a1, a2, a3⟩ := h3 h
  refine ⟨fun x hx => ?_, a2, a3⟩
  obtain ⟨j, hj, rfl⟩ := List.mem_iff_getElem.1 hx
  have := a1 j hj
  rw [rd_get hj] at this
  exact this
theorem turnStack_both (l : List Int) (hl : l.length ≤ 8796093022208) : ∃ r : List Int × Int, r.1.length ≤ l.length ∧ Ev (fun k => spec_TurnStack.f k l) r ∧ Ev (fun k => impl_TurnStack.f k l) r ∧ ((r.2 = 0 ∧ r.1 = turnL l ∧ (∀ x ∈ l, -64 ≤ x ∧ x ≤ 64) ∧ 0 < l.length ∧ isOrd (l.map plc) = true) ∨ r = ([], 1)) := by
  obtain ⟨b, h1, h2, h3⟩ := stack_both l hl
  have t1 : Ev (fun k => spec_l03Turn.f k l) (turnL l) := turn_gen (fun k => spec_l03Turn.l0 k) (fun k x0 x3 x4 => by rw [spec_l03Turn.l0]) l hl
  have t2 : Ev (fun k => impl_turned.f k l) (turnL l) := turn_gen (fun k => impl_turned.l0 k) (fun k x0 x3 x4 => by rw [impl_turned.l0]) l hl
  unfold spec_TurnStack.f impl_TurnStack.f
  cases b with
  | true =>
    obtain ⟨a1, a2, a3⟩ := h3 rfl
    exact ⟨(turnL l, 0), by rw [turnL_len]; exact Nat.le_refl _, Ev.bind h1 (Ev_ite_t rfl (Ev.bind t1 (Ev.now _))), Ev.bind h2 (Ev_ite_t rfl (Ev.bind t2 (Ev.now _))), .inl ⟨rfl, rfl, a1, a2, a3⟩⟩
  | false => exact ⟨([], 1), by simp, Ev.bind h1 (Ev_ite_f (by simp) (Ev.now _)), Ev.bind h2 (Ev_ite_f (by simp) (Ev.now _)), .inr rfl⟩
def Src (c : List Int) (a s : Int) : Prop := c.length ≤ 4096 ∧ (∀ x ∈ c, 0 ≤ x ∧ x ≤ 255) ∧ 0 ≤ a ∧ a ≤ c.length ∧ 0 ≤ s ∧ s < 2147483647
theorem tmod_range {x m : Int} (h : 0 ≤ x) (hm : 0 < m) : 0 ≤ Int.tmod x m ∧ Int.tmod x m < m := ⟨Int.tmod_nonneg _ h, Int.tmod_lt_of_pos _ hm⟩
theorem rd_byte {c : List Int} (hc : ∀ x ∈ c, 0 ≤ x ∧ x ≤ 255) (i : Int) : 0 ≤ rd c i ∧ rd c i ≤ 255 := by
  unfold rd
  by_cases h : i.toNat < c.length
  · simp only [List.getD_eq_getElem?_getD, List.getElem?_eq_getElem h, Option.getD_some]
    exact hc _ (List.getElem_mem h)
  · simp only [List.getD_eq_getElem?_getD, List.getElem?_eq_none (Nat.le_of_not_lt h), Option.getD_none]
    omega
theorem next_ok {c : List Int} {a s : Int} (h : Src c a s) (n : Int) (hn : n ≤ 9000000000000000000) :
    ∃ r a' s', spec_l01Next.f c a s n = some (r, a', s') ∧ Src c a' s' ∧ 0 ≤ r ∧ (1 ≤ n → r < n) := by
  obtain ⟨h1, h2, h3, h4, h5, h6⟩ := h
  unfold spec_l01Next.f
  by_cases hn1 : n ≤ 1
  · rw [if_pos hn1]
    exact ⟨0, a, s, rfl, ⟨h1, h2, h3, h4, h5, h6⟩, by omega, by omega⟩
  · rw [if_neg hn1]
    have e1 : wrap64 (wrap64 (s * 48271) + 61) = s * 48271 + 61 := by rw [w64 (x := s * 48271) (by omega) (by omega), w64 (by omega) (by omega)]
    rw [e1]
    have m1 := tmod_range (x := s * 48271 + 61) (m := 2147483647) (by omega) (by omega)
    generalize Int.tmod (s * 48271 + 61) 2147483647 = s1 at *
    have d1 : 0 ≤ Int.tdiv s1 31 ∧ Int.tdiv s1 31 ≤ 2147483647 := by
      rw [Int.tdiv_eq_ediv_of_nonneg m1.1]; omega
    rw [w64 (x := Int.tdiv s1 31) (by omega) (by omega)]
    generalize Int.tdiv s1 31 = q at *
    by_cases ha : a < (c.length : Int)
    · have e2 : wrap64 (a + 1) = a + 1 := w64 (by omega) (by omega)
      have e3 : wrap64 (a + 1 - 1) = a := by rw [w64 (by omega) (by omega)]; omega
      have b1 := rd_byte h2 a
      rw [if_pos ha, if_pos h3, e2, e3, w64 (x := rd c a) (by omega) (by omega), w64 (x := q + rd c a) (by omega) (by omega)]
      have r1 := tmod_range (x := rd c a) (m := n) b1.1 (by omega)
      have r2 := tmod_range (x := q + rd c a) (m := n) (by omega) (by omega)
      have hs : Src c (a + 1) s1 := ⟨h1, h2, by omega, by omega, m1.1, m1.2⟩
      by_cases hb : n ≤ 256
      · rw [if_pos hb]
        by_cases hc : Int.tmod (a + 1) 2 = 0
        · rw [if_pos hc, if_pos h3, if_pos ha, if_neg (by omega)]
          exact ⟨_, _, _, rfl, hs, r1.1, fun _ => r1.2⟩
        · rw [if_neg hc, if_neg (by omega)]
          exact ⟨_, _, _, rfl, hs, r2.1, fun _ => r2.2⟩
      · rw [if_neg hb, if_neg (by omega)]
        exact ⟨_, _, _, rfl, hs, r2.1, fun _ => r2.2⟩
    · rw [if_neg ha, if_neg (by omega)]
      have r1 := tmod_range (x := q) (m := n) (by omega) (by omega)
      exact ⟨_, _, _, rfl, ⟨h1, h2, h3, h4, m1.1, m1.2⟩, r1.1, fun _ => r1.2⟩
theorem from_ok (c : List Int) (hc : c.length ≤ 4096) (hb : ∀ x ∈ c, 0 ≤ x ∧ x ≤ 255) : ∃ a s, Ev (fun k => spec_l01From.f k c) (c, a, s) ∧ Src c a s := by
  have loop : ∀ (d i : Nat), i + d = c.length → ∀ s : Int, 0 ≤ s → s < 2147483647 → ∃ s', 0 ≤ s' ∧ s' < 2147483647 ∧ Ev (fun k => spec_l01From.l0 k c (i : Int) c 0 s) (c, 0, s') := by
    intro d
    induction d with
    | zero =>
      intro i hi s h0 h1
      exact ⟨s, h0, h1, Ev.step (f := fun _ => some (c, 0, s)) (fun k => by rw [spec_l01From.l0, if_neg (by omega)]) (Ev.now _)⟩
    | succ d ih =>
      intro i hi s h0 h1
      by_cases h64 : i < 64
      · have b1 := rd_byte hb (i : Int)
        have e1 : wrap64 (wrap64 (s * 71) + wrap64 (rd c (i : Int))) = s * 71 + rd c (i : Int) := by
          rw [w64 (x := s * 71) (by omega) (by omega), w64 (x := rd c (i : Int)) (by omega) (by omega), w64 (by omega) (by omega)]
        have m1 := tmod_range (x := s * 71 + rd c (i : Int)) (m := 2147483647) (by omega) (by omega)
        obtain ⟨s', g0, g1, g2⟩ := ih (i + 1) (by omega) (Int.tmod (s * 71 + rd c (i : Int)) 2147483647) m1.1 m1.2
        refine ⟨s', g0, g1, Ev.step (fun k => ?_) g2⟩
        rw [spec_l01From.l0, if_pos (by omega), if_pos (by omega), if_pos (by omega), w64n i (by omega), e1]
      · exact ⟨s, h0, h1, Ev.step (f := fun _ => some (c, 0, s)) (fun k => by rw [spec_l01From.l0, if_pos (by omega), if_neg (by omega)]) (Ev.now _)⟩
  obtain ⟨s', g0, g1, g2⟩ := loop c.length 0 (by omega) 88007 (by omega) (by omega)
  exact ⟨0, s', Ev.congr (fun k => rfl) g2, hc, hb, by omega, by omega, g0, g1⟩
theorem strOf_size (l : List Int) : (strOfNums l).size = l.length := by
  show (List.map _ l).toArray.size = _
  simp
theorem drawFolds_ok {c : List Int} {a s : Int} (h0 : Src c a s) : ∃ t a' s', Ev (fun k => spec_l03Draw.f k c a s) (t, a', s') ∧ Src c a' s' ∧ t.size ≤ 7 := by
  obtain ⟨r, a1, s1, e1, h1, r0, r1⟩ := next_ok h0 7 (by omega)
  have r2 := r1 (by omega)
  have loop : ∀ (d : Nat) (x : List Int) (a s : Int), Src c a s → x.length + d ≤ 6 → ∃ t a' s', Ev (fun k => spec_l03Draw.l0 k x (d : Int) c a s) (t, a', s') ∧ Src c a' s' ∧ t.size ≤ 7 := by
    intro d
    induction d with
    | zero =>
      intro x a s h hx
      obtain ⟨m, a2, s2, e2, h2, m0, _⟩ := next_ok h 40 (by omega)
      have hz := strOf_size x
      by_cases m1 : m = 0
      · refine ⟨_, a2, s2, Ev.step (f := fun _ => some ((strOfNums x) ++ (⟨#[120]⟩ : ByteArray), a2, s2)) (fun k => ?_) (Ev.now _), h2, ?_⟩
        · rw [spec_l03Draw.l0, if_neg (by omega), e2]
          simp only [Option.bind_some]
          rw [if_pos m1, if_pos (by omega)]
        · rw [ByteArray.size_append]
          show (strOfNums x).size + 1 ≤ 7
          omega
      · by_cases m2 : m = 1
        · refine ⟨_, a2, s2, Ev.step (f := fun _ => some ((⟨#[76, 82, 76, 82, 76, 82, 76]⟩ : ByteArray), a2, s2)) (fun k => ?_) (Ev.now _), h2, Nat.le_refl _⟩
          rw [spec_l03Draw.l0, if_neg (by omega), e2]
          simp only [Option.bind_some]
          rw [if_neg m1, if_pos m2]
        · refine ⟨_, a2, s2, Ev.step (f := fun _ => some (strOfNums x, a2, s2)) (fun k => ?_) (Ev.now _), h2, by omega⟩
          rw [spec_l03Draw.l0, if_neg (by omega), e2]
          simp only [Option.bind_some]
          rw [if_neg m1, if_neg m2]
    | succ d ih =>
      intro x a s h hx
      obtain ⟨m, a2, s2, e2, h2, m0, m1⟩ := next_ok h 2 (by omega)
      have m2 := m1 (by omega)
      obtain ⟨t, a', s', g1, g2, g3⟩ := ih (x ++ [bt (⟨#[76, 82]⟩ : ByteArray) m]) a2 s2 h2 (by rw [List.length_append]; simp; omega)
      refine ⟨t, a', s', Ev.step (fun k => ?_) g1, g2, g3⟩
      rw [spec_l03Draw.l0, if_pos (by omega), e2]
      simp only [Option.bind_some]
      rw [if_pos m0, if_pos m2, if_pos (by omega), w64 (x := ((d + 1 : Nat) : Int) - 1) (by omega) (by omega)]
      congr 1
      omega
  obtain ⟨t, a', s', g1, g2, g3⟩ := loop r.toNat [] a1 s1 h1 (by simp; omega)
  refine ⟨t, a', s', ?_, g2, g3⟩
  unfold spec_l03Draw.f
  simp only [e1, Option.bind_some]
  rw [show r = ((r.toNat : Nat) : Int) by omega]
  exact g1
theorem pick_ok {c : List Int} {a s : Int} (h : Src c a s) (l : List Int) (h0 : 0 < l.length) (h1 : l.length ≤ 1000) :
    ∃ r a' s', spec_l01Pick.f c a s l = some (r, a', s') ∧ Src c a' s' ∧ r ∈ l := by
  obtain ⟨r, a', s', e, hs, h2, h3⟩ := next_ok h (l.length : Int) (by omega)
  have h4 := h3 (by omega)
  unfold spec_l01Pick.f
  rw [e]
  simp only [Option.bind_some]
  rw [if_pos h2, if_pos h4]
  refine ⟨_, _, _, rfl, hs, ?_⟩
  obtain ⟨m, rfl⟩ := Int.eq_ofNat_of_zero_le h2
  exact rd_mem (by omega)
def mkb (l : List UInt8) : ByteArray := ⟨l.toArray⟩
theorem mkb_size (l : List UInt8) : (mkb l).size = l.length := by show l.toArray.size = _; exact List.size_toArray
theorem mkb_of (s : ByteArray) : s = mkb s.data.toList := by
  apply ByteArray.ext
  show s.data = s.data.toList.toArray
  simp
def allW (p : List UInt8 → Bool) : Nat → Bool
  | 0 => p []
  | n + 1 => allW (fun l => p (76 :: l)) n && allW (fun l => p (82 :: l)) n
theorem allW_spec : ∀ (n : Nat) (p : List UInt8 → Bool), allW p n = true → ∀ l : List UInt8, l.length = n → (∀ c ∈ l, c = 76 ∨ c = 82) → p l = true
  | 0, p, h, l, hl, _ => by
    rw [List.length_eq_zero_iff] at hl
    rw [hl]; exact h
  | n + 1, p, h, l, hl, hc => by
    rw [allW, Bool.and_eq_true] at h
    cases l with
    | nil => simp at hl
    | cons c t =>
      have ht : t.length = n := by simpa using hl
      have hct : ∀ x ∈ t, x = 76 ∨ x = 82 := fun x hx => hc x (List.mem_cons_of_mem _ hx)
      rcases hc c List.mem_cons_self with rfl | rfl
      · exact allW_spec n _ h.1 t ht hct
      · exact allW_spec n _ h.2 t ht hct
def allF (p : List UInt8 → Bool) : Bool := allW p 0 && allW p 1 && allW p 2 && allW p 3 && allW p 4 && allW p 5 && allW p 6
theorem isF_list {s : ByteArray} (h : isF s = true) : s = mkb s.data.toList ∧ s.data.toList.length ≤ 6 ∧ ∀ c ∈ s.data.toList, c = 76 ∨ c = 82 := by
  unfold isF at h
  rw [decide_eq_true_iff] at h
  obtain ⟨h1, h2⟩ := h
  refine ⟨mkb_of s, by simpa using h2, fun c hc => ?_⟩
  obtain ⟨i, hi, rfl⟩ := List.mem_iff_getElem.1 hc
  have hi' : i < s.size := by simpa using hi
  have := h1 i hi'
  rw [bt_list s i hi'] at this
  rcases this with e | e
  · left; apply UInt8.toNat_inj.1; exact Int.ofNat.inj e
  · right; apply UInt8.toNat_inj.1; exact Int.ofNat.inj e
theorem allF_spec {p : List UInt8 → Bool} (h : allF p = true) {s : ByteArray} (hs : isF s = true) : p s.data.toList = true := by
  obtain ⟨_, hl, hc⟩ := isF_list hs
  unfold allF at h
  simp only [Bool.and_eq_true] at h
  obtain ⟨⟨⟨⟨⟨⟨h0, h1⟩, h2⟩, h3⟩, h4⟩, h5⟩, h6⟩ := h
  have : s.data.toList.length = 0 ∨ s.data.toList.length = 1 ∨ s.data.toList.length = 2 ∨ s.data.toList.length = 3 ∨ s.data.toList.length = 4 ∨ s.data.toList.length = 5 ∨ s.data.toList.length = 6 := by omega
  rcases this with e | e | e | e | e | e | e
  · exact allW_spec 0 p h0 _ e hc
  · exact allW_spec 1 p h1 _ e hc
  · exact allW_spec 2 p h2 _ e hc
  · exact allW_spec 3 p h3 _ e hc
  · exact allW_spec 4 p h4 _ e hc
  · exact allW_spec 5 p h5 _ e hc
  · exact allW_spec 6 p h6 _ e hc
theorem likeInts_ev (l : List Int) (hl : l.length ≤ 35184372088832) : Ev (fun k => laws_likeInts.f k l l) true := by
  have loop : ∀ (d i : Nat), i + d = l.length → Ev (fun k => laws_likeInts.l0 k l l (i : Int)) true := by
    intro d
    induction d with
    | zero =>
      intro i hi
      refine Ev.step (f := fun _ => some true) (fun k => by rw [laws_likeInts.l0, if_neg (by omega)]) (Ev.now _)
    | succ d ih =>
      intro i hi
      refine Ev.step (f := fun k => laws_likeInts.l0 k l l ((i + 1 : Nat) : Int)) (fun k => by rw [laws_likeInts.l0, if_pos (by omega), if_pos (by omega), if_pos (by omega), if_pos rfl, w64n i (by omega)]) ?_
      exact ih (i + 1) (by omega)
  refine Ev.congr (f := fun k => laws_likeInts.l0 k l l ((0 : Nat) : Int)) (fun k => ?_) (loop l.length 0 (by omega))
  simp only [laws_likeInts.f, if_true]
  rfl
theorem mx_comm (a b : Int) : mx a b = mx b a := by unfold mx; split <;> split <;> omega
theorem plc_neg {x : Int} (h : -64 ≤ x ∧ x ≤ 64) : plc (wrap64 (-x)) = plc x := by
  unfold plc
  rw [w64 (x := -x) (by omega) (by omega), w64 (x := -(-x)) (by omega) (by omega), Int.neg_neg, mx_comm]
theorem turn_plc {l : List Int} (h : ∀ x ∈ l, -64 ≤ x ∧ x ≤ 64) : (turnL l).map plc = (l.map plc).reverse := by
  unfold turnL
  rw [List.map_reverse, List.map_map]
  congr 1
  exact List.map_congr_left (fun x hx => plc_neg (h x hx))
theorem turn_turn {l : List Int} (h : ∀ x ∈ l, -64 ≤ x ∧ x ≤ 64) : turnL (turnL l) = l := by
  unfold turnL
  rw [List.map_reverse, List.reverse_reverse, List.map_map]
  have : l.map ((fun x => wrap64 (-x)) ∘ fun x => wrap64 (-x)) = l.map id := List.map_congr_left (fun x hx => by
    have := h x hx
    show wrap64 (-(wrap64 (-x))) = x
    rw [w64 (x := -x) (by omega) (by omega), w64 (by omega) (by omega), Int.neg_neg])
  rw [this, List.map_id]
theorem rd_rev {p : List Int} {j : Nat} (h : j < p.length) : rd p.reverse (j : Int) = rd p ((p.length - 1 - j : Nat) : Int) := by
  rw [rd_get (by rw [List.length_reverse]; exact h), rd_get (by omega), List.getElem_reverse]
theorem isOrd_rev {p : List Int} (h : isOrd p = true) : isOrd p.reverse = true := by
  obtain ⟨h1, h2⟩ := isOrd_iff.1 h
  refine isOrd_iff.2 ⟨by rw [List.length_reverse]; exact h1, fun j _ hj => ?_⟩
  rw [List.length_reverse] at hj ⊢
  rw [rd_rev hj]
  obtain ⟨a1, a2, _⟩ := h2 (p.length - 1 - j) (Nat.zero_le _) (by omega)
  refine ⟨a1, a2, fun t ht => ?_⟩
  obtain ⟨_, _, b3⟩ := h2 (p.length - 1 - t) (Nat.zero_le _) (by omega)
  rw [rd_rev (by omega)]
  exact fun e => b3 (p.length - 1 - j) (by omega) e.symm
theorem stack_true {l : List Int} (hl : l.length ≤ 8796093022208) (h1 : ∀ x ∈ l, -64 ≤ x ∧ x ≤ 64) (h2 : 0 < l.length) (h3 : isOrd (l.map plc) = true) : Ev (fun k => impl_isStack.f k l) true := by
  have loop : ∀ (d i : Nat), i + d = l.length → Ev (fun k => impl_isStack.l0 k l ((l.take i).map plc) l (l.length : Int) (i : Int)) true := by
    intro d
    induction d with
    | zero =>
      intro i hi
      obtain rfl : i = l.length := by omega
      rw [List.take_length]
      have lm : (l.map plc).length = l.length := by simp
      have ho := implIsOrder_ev (l.map plc) (by omega)
      rw [h3] at ho
      exact Ev.step (f := fun k => (impl_IsOrder.f k (l.map plc)).bind fun t => some t) (fun k => by rw [impl_isStack.l0, if_neg (by omega), if_pos (by omega)]) (Ev.bind ho (Ev.now _))
    | succ d ih =>
      intro i hi
      have lt : ((l.take i).map plc).length = i := by rw [List.length_map, List.length_take]; omega
      have h : -64 ≤ rd l (i : Int) ∧ rd l (i : Int) ≤ 64 := h1 _ (rd_mem (by omega))
      have ih' := ih (i + 1) (by omega)
      have e : (l.take (i + 1)).map plc = (l.take i).map plc ++ [wrap64 (mx (rd l (i : Int)) (wrap64 (-(rd l (i : Int)))) - 1)] := by
        rw [List.take_succ_eq_append_getElem (show i < l.length by omega), List.map_append, rd_get (show i < l.length by omega)]
        rfl
      rw [e] at ih'
      refine Ev.step (fun k => ?_) ih'
      rw [impl_isStack.l0, if_pos (by omega), if_pos (by omega), if_pos (by omega), inRange_eq]
      simp only [Option.bind_some, decide_eq_true_eq]
      rw [if_pos h, if_pos (by omega), w64n i (by omega)]
  exact Ev.congr (fun k => rfl) (loop l.length 0 (by omega))
theorem turned_ev {l : List Int} (hl : l.length ≤ 8796093022208) (h1 : ∀ x ∈ l, -64 ≤ x ∧ x ≤ 64) (h2 : 0 < l.length) (h3 : isOrd (l.map plc) = true) : Ev (fun k => impl_TurnStack.f k (turnL l)) (l, 0) := by
  have hm : ∀ x ∈ turnL l, -64 ≤ x ∧ x ≤ 64 := by
    intro x hx
    unfold turnL at hx
    rw [List.mem_reverse, List.mem_map] at hx
    obtain ⟨y, hy, rfl⟩ := hx
    have := h1 y hy
    rw [w64 (by omega) (by omega)]
    omega
  have hs : Ev (fun k => impl_isStack.f k (turnL l)) true := stack_true (by rw [turnL_len]; exact hl) hm (by rw [turnL_len]; exact h2) (by rw [turn_plc h1]; exact isOrd_rev h3)
  have t2 : Ev (fun k => impl_turned.f k (turnL l)) (turnL (turnL l)) := turn_gen (fun k => impl_turned.l0 k) (fun k x0 x3 x4 => by rw [impl_turned.l0]) _ (by rw [turnL_len]; exact hl)
  rw [turn_turn h1] at t2
  unfold impl_TurnStack.f
  exact Ev.bind hs (Ev_ite_t rfl (Ev.bind t2 (Ev.now _)))
def mirK (l : List UInt8) : Bool := match impl_foldStrip.f 400 (mkb l), impl_foldStrip.f 400 (mkb (l.map miSw)), spec_l03Stack.f 400 (mkb l) with
  | some a, some b, some c => a.1 == c && decide (a.1.length = 2 ^ l.length) && ((laws_FnMirroredStrips.j2 400 a.1 b.1 ((a.1.length : Int) != (b.1.length : Int))) == some true)
  | _, _, _ => false
theorem mirK_0 : allW mirK 0 = true := by decide +kernel
theorem mirK_1 : allW mirK 1 = true := by decide +kernel
theorem mirK_2 : allW mirK 2 = true := by decide +kernel
theorem mirK_3 : allW mirK 3 = true := by decide +kernel
theorem mirK_4 : allW mirK 4 = true := by decide +kernel
theorem mirK_5 : allW mirK 5 = true := by decide +kernel
theorem mirK_600 : allW (fun l => mirK (76 :: 76 :: l)) 4 = true := by decide +kernel
theorem mirK_601 : allW (fun l => mirK (76 :: 82 :: l)) 4 = true := by decide +kernel
theorem mirK_610 : allW (fun l => mirK (82 :: 76 :: l)) 4 = true := by decide +kernel
theorem mirK_611 : allW (fun l => mirK (82 :: 82 :: l)) 4 = true := by decide +kernel
theorem mir_fin : allF mirK = true := by
  unfold allF
  rw [mirK_0, mirK_1, mirK_2, mirK_3, mirK_4, mirK_5]
  have h : allW mirK 6 = true := by
    show ((allW (fun l => mirK (76 :: 76 :: l)) 4 && allW (fun l => mirK (76 :: 82 :: l)) 4) && (allW (fun l => mirK (82 :: 76 :: l)) 4 && allW (fun l => mirK (82 :: 82 :: l)) 4)) = true
    rw [mirK_600, mirK_601, mirK_610, mirK_611]
    rfl
  rw [h]
  rfl
theorem isF_mkb2 {l : List UInt8} (h : l.length ≤ 6) (hc : ∀ c ∈ l, c = 76 ∨ c = 82) : isF (mkb l) = true := by
  unfold isF
  rw [decide_eq_true_iff]
  refine ⟨fun i hi => ?_, by rw [mkb_size]; exact h⟩
  rw [bt_list _ i hi]
  have hi' : i < l.length := by rw [mkb_size] at hi; exact hi
  have e : (mkb l).data.toList = l := by show l.toArray.toList = l; simp
  simp only [e]
  rcases hc _ (List.getElem_mem hi') with z | z
  · left; rw [z]; rfl
  · right; rw [z]; rfl
theorem isF_mir {s : ByteArray} (hs : isF s = true) : isF (mirT s) = true := by
  obtain ⟨_, h2, h3⟩ := isF_list hs
  refine isF_mkb2 (l := s.data.toList.map miSw) (by rw [List.length_map]; exact h2) (fun c hc => ?_)
  rw [List.mem_map] at hc
  obtain ⟨d, hd, rfl⟩ := hc
  rcases h3 d hd with rfl | rfl
  · exact .inr rfl
  · exact .inl rfl
theorem foldStrip_ev0 {s : ByteArray} {v : List Int × ByteArray} (hf : isF s = true) (h : Ev (fun k => impl_foldStrip.f k s) v) : Ev (fun k => impl_FoldStrip.f k s) (v.1, 0) := by
  unfold impl_FoldStrip.f
  rw [implIsFolds_eq]
  simp only [Option.bind_some, if_pos hf]
  exact Ev.bind h (Ev.now _)
theorem mir_all {s : ByteArray} (hs : isF s = true) : ∃ (st : List Int) (cr : ByteArray), Ev (fun k => impl_foldStrip.f k s) (st, cr) ∧ Ev (fun k => spec_l03Stack.f k s) st ∧ st.length = 2 ^ s.size ∧ Ev (fun k => laws_FnMirroredStrips.j1 k s (mirT s) 0) true := by
  have h := allF_spec mir_fin hs
  have hm : mkb (s.data.toList.map miSw) = mirT s := rfl
  unfold mirK at h
  rw [← (isF_list hs).1, hm] at h
  cases e1 : impl_foldStrip.f 400 s with
  | none => rw [e1] at h; simp at h
  | some a =>
    cases e2 : impl_foldStrip.f 400 (mirT s) with
    | none => rw [e1, e2] at h; simp at h
    | some b =>
      cases e3 : spec_l03Stack.f 400 s with
      | none => rw [e1, e2, e3] at h; simp at h
      | some c =>
        rw [e1, e2, e3] at h
        simp only [Bool.and_eq_true, beq_iff_eq, decide_eq_true_eq] at h
        obtain ⟨⟨h1, h2⟩, h3⟩ := h
        have hz : s.size = s.data.toList.length := by simp
        have g0 := Ev.of (impl_foldStrip.mono _) e1
        have g1 := foldStrip_ev0 hs g0
        have g2 := foldStrip_ev0 (isF_mir hs) (Ev.of (impl_foldStrip.mono _) e2)
        refine ⟨a.1, a.2, g0, ?_, by rw [h2, hz], ?_⟩
        · rw [h1]
          exact Ev.of (spec_l03Stack.mono _) e3
        · refine Ev.step (fun k => by rw [laws_FnMirroredStrips.j1, if_pos rfl]) (Ev.bind g1 (Ev.bind g2 (Ev_ite_t rfl (Ev_ite_t rfl ?_))))
          exact Ev.of (fun k => (laws_FnMirroredStrips.mono_l k).2.2.1 _ _ _) h3
theorem drawList_ok {c : List Int} {a s : Int} (h0 : Src c a s) : ∃ x a' s', Ev (fun k => spec_l03DrawList.f k c a s) (x, a', s') ∧ Src c a' s' ∧ x.length ≤ 64 := by
  obtain ⟨t, a1, s1, e1, h1, ht⟩ := drawFolds_ok h0
  have join : ∀ x : List Int, 1 ≤ x.length → x.length ≤ 64 → ∃ y a' s', Ev (fun k => spec_l03DrawList.j0 k x c a1 s1) (y, a', s') ∧ Src c a' s' ∧ y.length ≤ 64 := by
    intro x x1 x2
    obtain ⟨r, a2, s2, e2, h2, r0, r1⟩ := next_ok h1 (x.length : Int) (by omega)
    have r2 := r1 (by omega)
    obtain ⟨m, a3, s3, e3, h3, m0, _⟩ := next_ok h2 12 (by omega)
    by_cases c0 : m = 0
    · exact ⟨_, a3, s3, Ev.step (f := fun _ => some (x.set r.toNat (wrap64 (-(rd x r))), a3, s3)) (fun k => by rw [spec_l03DrawList.j0, e2]; simp only [Option.bind_some]; rw [e3]; simp only [Option.bind_some]; rw [if_pos c0, if_pos r0, if_pos r2]) (Ev.now _), h3, by rw [List.length_set]; exact x2⟩
    by_cases c1 : m = 1
    · obtain ⟨j, a4, s4, e4, h4, j0, j1⟩ := next_ok h3 (x.length : Int) (by omega)
      have j2 := j1 (by omega)
      exact ⟨_, a4, s4, Ev.step (f := fun _ => some ((x.set r.toNat (rd x j)).set j.toNat (rd x r), a4, s4)) (fun k => by rw [spec_l03DrawList.j0, e2]; simp only [Option.bind_some]; rw [e3]; simp only [Option.bind_some]; rw [if_neg c0, if_pos c1, e4]; simp only [Option.bind_some]; rw [if_pos r0, if_pos r2, if_pos j0, if_pos j2]) (Ev.now _), h4, by rw [List.length_set, List.length_set]; exact x2⟩
    by_cases c2 : m = 2
    · obtain ⟨v, a4, s4, e4, h4, _⟩ := pick_ok h3 ([0, 65, (-65), rd x 0, wrap64 ((x.length : Int) + 1)] : List Int) (by simp) (by simp)
      exact ⟨_, a4, s4, Ev.step (f := fun _ => some (x.set r.toNat v, a4, s4)) (fun k => by rw [spec_l03DrawList.j0, e2]; simp only [Option.bind_some]; rw [e3]; simp only [Option.bind_some]; rw [if_neg c0, if_neg c1, if_pos c2, if_pos (by omega), e4]; simp only [Option.bind_some]; rw [if_pos r0, if_pos r2]) (Ev.now _), h4, by rw [List.length_set]; exact x2⟩
    by_cases c3 : m = 3
    · exact ⟨_, a3, s3, Ev.step (f := fun _ => some (x.take r.toNat, a3, s3)) (fun k => by rw [spec_l03DrawList.j0, e2]; simp only [Option.bind_some]; rw [e3]; simp only [Option.bind_some]; rw [if_neg c0, if_neg c1, if_neg c2, if_pos c3, if_pos r0, if_pos (by omega)]) (Ev.now _), h3, by rw [List.length_take]; omega⟩
    · exact ⟨x, a3, s3, Ev.step (f := fun _ => some (x, a3, s3)) (fun k => by rw [spec_l03DrawList.j0, e2]; simp only [Option.bind_some]; rw [e3]; simp only [Option.bind_some]; rw [if_neg c0, if_neg c1, if_neg c2, if_neg c3]) (Ev.now _), h3, x2⟩
  by_cases hf : isF t = true
  · obtain ⟨st, cr, g1, g2, g3, _⟩ := mir_all hf
    have hp : 1 ≤ 2 ^ t.size := Nat.one_le_two_pow
    have hp2 : 2 ^ t.size ≤ 2 ^ 6 := Nat.pow_le_pow_right (by omega) (by have := (isF_list hf).2.1; have : t.size = t.data.toList.length := by simp
                                                                         omega)
    obtain ⟨y, a2, s2, e2, h2, h3⟩ := join st (by omega) (by omega)
    refine ⟨y, a2, s2, ?_, h2, h3⟩
    unfold spec_l03DrawList.f
    exact Ev.bind e1 (Ev.bind (specIsFolds_ev t (by omega)) (Ev_ite_t hf (Ev.bind g2 e2)))
  · obtain ⟨y, a2, s2, e2, h2, h3⟩ := join [1] (by simp) (by simp)
    refine ⟨y, a2, s2, ?_, h2, h3⟩
    unfold spec_l03DrawList.f
    exact Ev.bind e1 (Ev.bind (specIsFolds_ev t (by omega)) (Ev_ite_f hf e2))
theorem FnMirroredStrips : laws_FnMirroredStrips.Pure := by
  intro c hc1 hc2 hw
  apply Ev.rounds
  unfold laws_FnMirroredStrips.f laws_big.f
  simp only [Option.bind_some, decide_eq_true_eq]
  by_cases hb : (c.length : Int) > 4096
  · exact Ev_ite_t hb (Ev.now _)
  · refine Ev_ite_f hb ?_
    have hbytes : ∀ x ∈ c, 0 ≤ x ∧ x ≤ 255 := fun x hx => wf8 (hw x hx)
    obtain ⟨a, s, hf, h0⟩ := from_ok c (by omega) hbytes
    obtain ⟨t, a', s', h1, h2, h3⟩ := drawFolds_ok h0
    have hd : Ev (fun k => spec_DrawMirrorFolds.f k c) t := by
      unfold spec_DrawMirrorFolds.f
      exact Ev.bind hf (Ev.bind h1 (Ev.now _))
    obtain ⟨x, a2, s2, y1, _, y3⟩ := drawList_ok h0
    have hd2 : Ev (fun k => spec_DrawTurnStack.f k c) x := by
      unfold spec_DrawTurnStack.f
      exact Ev.bind hf (Ev.bind y1 (Ev.now _))
    obtain ⟨r, r1, r2, r3, r4⟩ := turnStack_both x (by omega)
    obtain ⟨m, m1, m2, m3⟩ : ∃ m : ByteArray × Int, impl_MirrorFolds.f t = some m ∧ Ev (fun k => spec_MirrorFolds.f k t) m ∧ ((isF t = true ∧ m = (mirT t, 0)) ∨ m = (⟨#[]⟩, 1)) := by
      by_cases hF : isF t = true
      · exact ⟨_, mirror_impl hF, mirror_spec hF, .inl ⟨hF, rfl⟩⟩
      · exact ⟨_, mirror_impl_bad hF, mirror_bad (by omega) hF, .inr rfl⟩
    have hj1 : Ev (fun k => laws_FnMirroredStrips.j1 k t m.1 m.2) true := by
      rcases m3 with ⟨hF, rfl⟩ | rfl
      · obtain ⟨_, _, _, _, _, h⟩ := mir_all hF; exact h
      · exact Ev.step (f := fun _ => some true) (fun k => by rw [laws_FnMirroredStrips.j1, if_neg (by decide)]) (Ev.now _)
    refine Ev.bind hd ?_
    rw [m1]
    refine Ev.bind (Ev.now _) (Ev.bind m2 (Ev.bind hd2 (Ev.bind r3 (Ev.bind r2 (Ev_ite_t rfl (Ev_ite_t rfl (Ev_ite_t rfl (Ev.bind (likeInts_ev r.1 (by omega)) ?_))))))))
    rcases r4 with ⟨q1, q2, q3, q4, q5⟩ | rfl
    · refine Ev.step (fun k => by rw [laws_FnMirroredStrips.j0, if_neg (by simp), if_pos q1]) ?_
      rw [q2]
      exact Ev.bind (turned_ev (by omega) q3 q4 q5) (Ev_ite_t rfl (Ev.bind (likeInts_ev x (by omega)) (Ev_ite_t rfl hj1)))
    · exact Ev.step (fun k => by rw [laws_FnMirroredStrips.j0, if_neg (by simp), if_neg (by decide)]) hj1

end Go.Proofs.YtdpmpoakjhhaaaaGreatDoor.Pure
