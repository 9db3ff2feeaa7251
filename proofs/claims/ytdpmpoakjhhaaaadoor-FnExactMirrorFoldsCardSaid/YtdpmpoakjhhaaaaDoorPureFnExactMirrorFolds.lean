/- The pure statement of FnExactMirrorFolds: for every input that the row lets in, the law's Lean function answers true; no further condition. -/
import Derived.Test.YtdpmpoakjhhaaaaDoorQFnExactMirrorFoldsx2
set_option linter.unusedVariables false
set_option linter.unusedSimpArgs false
namespace Go.Proofs.YtdpmpoakjhhaaaaDoor.Pure
open Go.RowKit Go.Proofs.YtdpmpoakjhhaaaaDoor.QFnExactMirrorFolds Go.Proofs.YtdpmpoakjhhaaaaDoorW.PrintWords Go.Proofs.YtdpmpoakjhhaaaaDoorW.PrintLast

theorem w64 {x : Int} (h0 : -9223372036854775808 ≤ x) (h1 : x ≤ 9223372036854775807) : wrap64 x = x := by unfold wrap64; omega
theorem Ev_ite_t {α : Type} {c : Prop} [Decidable c] {f g : Nat → Option α} {r : α} (h : c) (k : Ev f r) : Ev (fun n => if c then f n else g n) r :=
  Ev.congr (fun _ => if_pos h) k
theorem Ev_ite_f {α : Type} {c : Prop} [Decidable c] {f g : Nat → Option α} {r : α} (h : ¬ c) (k : Ev g r) : Ev (fun n => if c then f n else g n) r :=
  Ev.congr (fun _ => if_neg h) k
theorem w64n (i : Nat) (h : i < 9223372036854775807) : wrap64 ((i : Int) + 1) = ((i + 1 : Nat) : Int) := by
  rw [w64 (by omega) (by omega)]; rfl
def isF (s : ByteArray) : Bool := decide ((∀ i : Nat, i < s.size → bt s (i : Int) = 76 ∨ bt s (i : Int) = 82) ∧ s.size ≤ 6)
theorem bt_list (s : ByteArray) (i : Nat) (h : i < s.size) : bt s (i : Int) = ((s.data.toList[i]'(by simpa using h)).toNat : Int) := by
  unfold bt
  rw [dif_pos (by rw [Int.toNat_natCast]; exact h)]
  simp [ByteArray.getElem_eq_getElem_data]
theorem trim_nil (cs : List UInt8) : ∀ l : List UInt8, Go.Lib.trimS l cs = [] ↔ ∀ b ∈ l, cs.contains b = true := by
  have dw : ∀ l : List UInt8, l.dropWhile (cs.contains ·) = [] ↔ ∀ b ∈ l, cs.contains b = true := by
    intro l
    induction l with
    | nil => simp
    | cons a t ih =>
      rw [List.dropWhile_cons]
      by_cases h : cs.contains a = true
      · rw [if_pos h, ih]
        exact ⟨fun g b hb => by rcases List.mem_cons.1 hb with rfl | hb; exact h; exact g b hb, fun g b hb => g b (List.mem_cons_of_mem _ hb)⟩
      · rw [if_neg h]
        exact ⟨fun g => (List.cons_ne_nil _ _ g).elim, fun g => absurd (g a List.mem_cons_self) h⟩
  intro l
  unfold Go.Lib.trimS Go.Lib.trimLeftS
  rw [dw]
  unfold Go.Lib.trimRightS
  constructor
  · intro g
    have e : l.reverse.dropWhile (cs.contains ·) = [] := by
      cases hd : l.reverse.dropWhile (cs.contains ·) with
      | nil => rfl
      | cons a t =>
        have h1 := List.head?_dropWhile_not (cs.contains ·) l.reverse
        rw [hd] at h1 g
        have h2 := g a (by simp)
        simp only [List.head?_cons] at h1
        rw [h2] at h1
        cases h1
    intro b hb
    exact (dw l.reverse).1 e b (List.mem_reverse.2 hb)
  · intro g
    have e := (dw l.reverse).2 (fun b hb => g b (List.mem_reverse.1 hb))
    rw [e]
    intro b hb
    simp at hb
theorem specIsFolds_ev (s : ByteArray) (hl : s.size ≤ 35184372088832) : Ev (fun k => spec_IsFolds.f k s) (isF s) := by
  have loop : ∀ (d i : Nat), i + d = s.size → ∀ b : Bool, (b = true ↔ (∀ j : Nat, i ≤ j → j < s.size → bt s (j : Int) = 76 ∨ bt s (j : Int) = 82) ∧ s.size ≤ 6) → Ev (fun k => spec_IsFolds.l0 k s (i : Int)) b := by
    intro d
    induction d with
    | zero =>
      intro i hi b hb
      have e : b = decide ((s.size : Int) ≤ 6) := by
        rw [Bool.eq_iff_iff, hb, decide_eq_true_iff]
        exact ⟨fun h => by omega, fun h => ⟨fun j h1 h2 => by omega, by omega⟩⟩
      rw [e]
      exact Ev.step (f := fun _ => some (decide ((s.size : Int) ≤ 6))) (fun k => by rw [spec_IsFolds.l0, if_neg (by omega)]) (Ev.now _)
    | succ d ih =>
      intro i hi b hb
      by_cases h1 : bt s (i : Int) = 76 ∨ bt s (i : Int) = 82
      · have h2 := ih (i + 1) (by omega) b (by
          rw [hb]
          refine ⟨fun h => ⟨fun j a c => h.1 j (by omega) c, h.2⟩, fun h => ⟨fun j a c => ?_, h.2⟩⟩
          by_cases e : j = i
          · subst e; exact h1
          · exact h.1 j (by omega) c)
        refine Ev.step (fun k => ?_) h2
        rw [spec_IsFolds.l0, if_pos (by omega), if_pos (by omega), w64n i (by omega)]
        by_cases e : bt s (i : Int) = 76
        · rw [if_pos e]
        · rw [if_neg e, if_pos (by omega)]
      · obtain rfl : b = false := by
          rw [Bool.eq_false_iff]; intro h
          exact h1 ((hb.1 h).1 i (Nat.le_refl _) (by omega))
        refine Ev.step (f := fun _ => some false) (fun k => ?_) (Ev.now _)
        rw [spec_IsFolds.l0, if_pos (by omega), if_pos (by omega), if_neg (by omega), if_neg (by omega)]
  exact Ev.congr (fun k => rfl) (loop s.size 0 (by omega) _ (by unfold isF; rw [decide_eq_true_iff]; exact ⟨fun h => ⟨fun j _ c => h.1 j c, h.2⟩, fun h => ⟨fun j c => h.1 j (by omega) c, h.2⟩⟩))
theorem implIsFolds_eq (s : ByteArray) : impl_IsFolds.f s = some (isF s) := by
  unfold impl_IsFolds.f
  by_cases h : (s.size : Int) ≤ 6
  · rw [if_pos h]
    congr 1
    unfold isF
    rw [decide_eq_decide, trim_nil]
    constructor
    · intro g
      refine ⟨fun i hi => ?_, by omega⟩
      rw [bt_list s i hi]
      have := g _ (List.getElem_mem (l := s.data.toList) (n := i) (by simpa using hi))
      simp only [List.contains_cons, List.contains_nil, Bool.or_false, Bool.or_eq_true, beq_iff_eq] at this
      rcases this with e | e
      · rw [e]; left; rfl
      · rw [e]; right; rfl
    · rintro ⟨g, _⟩ b hb
      obtain ⟨i, hi, rfl⟩ := List.mem_iff_getElem.1 hb
      have hi' : i < s.size := by simpa using hi
      have := g i hi'
      rw [bt_list s i hi'] at this
      simp only [List.contains_cons, List.contains_nil, Bool.or_false, Bool.or_eq_true, beq_iff_eq]
      rcases this with e | e
      · left; apply UInt8.toNat_inj.1; exact Int.ofNat.inj e
      · right; apply UInt8.toNat_inj.1; exact Int.ofNat.inj e
  · rw [if_neg h]
    congr 1
    unfold isF
    symm
    rw [decide_eq_false_iff_not]
    rintro ⟨_, g⟩
    omega
def mirT (s : ByteArray) : ByteArray := ⟨(s.data.toList.map miSw).toArray⟩
theorem miSw_76 : miSw 76 = 82 := by decide
theorem miSw_82 : miSw 82 = 76 := by decide
theorem strOfNums_map (l : List UInt8) : strOfNums (l.map fun c => (c.toNat : Int)) = ⟨l.toArray⟩ := by
  unfold strOfNums
  simp [List.map_map, Function.comp_def]
theorem char_eq {s : ByteArray} {i : Nat} (h : i < s.size) {c : UInt8} (e : bt s (i : Int) = (c.toNat : Int)) : s.data.toList[i]'(by simpa using h) = c := by
  rw [bt_list s i h] at e
  exact UInt8.toNat_inj.1 (Int.ofNat.inj e)
theorem mirror_spec {s : ByteArray} (hf : isF s = true) : Ev (fun k => spec_MirrorFolds.f k s) (mirT s, 0) := by
  have hc := of_decide_eq_true hf
  have loop : ∀ (d i : Nat), i + d = s.size → Ev (fun k => spec_MirrorFolds.l0 k s ((s.data.toList.take i).map fun c => ((miSw c).toNat : Int)) (i : Int)) (mirT s, 0) := by
    intro d
    induction d with
    | zero =>
      intro i hi
      refine Ev.step (f := fun _ => some (mirT s, 0)) (fun k => ?_) (Ev.now _)
      rw [spec_MirrorFolds.l0, if_neg (by omega)]
      congr 1
      congr 1
      have e : s.data.toList.take i = s.data.toList := List.take_of_length_le (by simp; show s.size ≤ i; omega)
      rw [e]
      have := strOfNums_map (s.data.toList.map miSw)
      rw [List.map_map] at this
      exact this
    | succ d ih =>
      intro i hi
      have hi' : i < s.data.toList.length := by simp; show i < s.size; omega
      have h2 := ih (i + 1) (by omega)
      rw [List.take_add_one, List.getElem?_eq_getElem hi', List.map_append] at h2
      simp only [Option.toList_some, List.map_cons, List.map_nil] at h2
      refine Ev.step (fun k => ?_) h2
      have hlen : ((s.data.toList.take i).map fun c => ((miSw c).toNat : Int)).length < 140737488355328 := by
        rw [List.length_map, List.length_take]; omega
      rw [spec_MirrorFolds.l0, if_pos (by omega), if_pos (by omega), w64n i (by omega)]
      by_cases e : bt s (i : Int) = 76
      · rw [if_pos e, if_pos hlen, char_eq (by omega) (c := 76) e, miSw_76]
        rfl
      · have e2 : bt s (i : Int) = 82 := by rcases hc.1 i (by omega) with h | h; exact absurd h e; exact h
        rw [if_neg e, if_pos hlen, char_eq (by omega) (c := 82) e2, miSw_82]
        rfl
  unfold spec_MirrorFolds.f
  exact Ev.bind (specIsFolds_ev s (by omega)) (Ev_ite_t hf (Ev.congr (fun k => rfl) (loop s.size 0 (by omega))))
theorem mirror_bad {s : ByteArray} (hl : s.size ≤ 35184372088832) (hf : ¬ isF s = true) : Ev (fun k => spec_MirrorFolds.f k s) (⟨#[]⟩, 1) := by
  unfold spec_MirrorFolds.f
  exact Ev.bind (specIsFolds_ev s hl) (Ev_ite_f hf (Ev.now _))
theorem mirror_impl {s : ByteArray} (hf : isF s = true) : impl_MirrorFolds.f s = some (mirT s, 0) := by
  have hc := (of_decide_eq_true hf).2
  unfold impl_MirrorFolds.f
  rw [implIsFolds_eq]
  simp only [Option.bind_some, if_pos hf]
  unfold impl_mirrored.f
  rw [if_pos (by omega)]
  rfl
theorem mirror_impl_bad {s : ByteArray} (hf : ¬ isF s = true) : impl_MirrorFolds.f s = some (⟨#[]⟩, 1) := by
  unfold impl_MirrorFolds.f
  rw [implIsFolds_eq]
  simp only [Option.bind_some, if_neg hf]
theorem FnExactMirrorFolds : laws_FnExactMirrorFolds.Pure := by
  intro s hs
  apply Ev.rounds
  unfold laws_FnExactMirrorFolds.f
  by_cases hb : (s.size : Int) > 1048576
  · exact Ev_ite_t hb (Ev.now _)
  · refine Ev_ite_f hb ?_
    by_cases hf : isF s = true
    · refine Ev.bind (mirror_spec hf) ?_
      rw [mirror_impl hf]
      simp only [Option.bind_some]
      exact Ev_ite_t (by trivial) (Ev_ite_t (by trivial) (Ev.now _))
    · refine Ev.bind (mirror_bad (by omega) hf) ?_
      rw [mirror_impl_bad hf]
      simp only [Option.bind_some]
      exact Ev_ite_t (by trivial) (Ev_ite_t (by trivial) (Ev.now _))

end Go.Proofs.YtdpmpoakjhhaaaaDoor.Pure
