/- The pure statement of FnExactMirrorScheme: for every input that the row lets in, the law's Lean function answers true; no further condition. -/
import Derived.Test.YtdpmpoakjhhaaaaGreatDoorQFnExactMirrorSchemex3
set_option linter.unusedVariables false
set_option linter.unusedSimpArgs false
namespace Go.Proofs.YtdpmpoakjhhaaaaGreatDoor.Pure
open Go.RowKit Go.Proofs.YtdpmpoakjhhaaaaGreatDoor.QFnExactMirrorScheme Go.Proofs.YtdpmpoakjhhaaaaGreatDoorW.PrintWords Go.Proofs.YtdpmpoakjhhaaaaGreatDoorW.PrintLast

theorem w64 {x : Int} (h0 : -9223372036854775808 ≤ x) (h1 : x ≤ 9223372036854775807) : wrap64 x = x := by unfold wrap64; omega
theorem Ev_ite_t {α : Type} {c : Prop} [Decidable c] {f g : Nat → Option α} {r : α} (h : c) (k : Ev f r) : Ev (fun n => if c then f n else g n) r :=
  Ev.congr (fun _ => if_pos h) k
theorem Ev_ite_f {α : Type} {c : Prop} [Decidable c] {f g : Nat → Option α} {r : α} (h : ¬ c) (k : Ev g r) : Ev (fun n => if c then f n else g n) r :=
  Ev.congr (fun _ => if_neg h) k
theorem w64n (i : Nat) (h : i < 9223372036854775807) : wrap64 ((i : Int) + 1) = ((i + 1 : Nat) : Int) := by
  rw [w64 (by omega) (by omega)]; rfl
theorem bt_list (s : ByteArray) (i : Nat) (h : i < s.size) : bt s (i : Int) = ((s.data.toList[i]'(by simpa using h)).toNat : Int) := by
  unfold bt
  rw [dif_pos (by rw [Int.toNat_natCast]; exact h)]
  simp [ByteArray.getElem_eq_getElem_data]
def lrc (l : List UInt8) : Nat := List.count 76 l + List.count 82 l
theorem lrc_cons (c : UInt8) (t : List UInt8) : lrc (c :: t) = lrc t + (if c = 76 ∨ c = 82 then 1 else 0) := by
  unfold lrc
  rw [List.count_cons, List.count_cons]
  by_cases h1 : c = 76
  · subst h1; simp; omega
  · by_cases h2 : c = 82
    · subst h2; simp; omega
    · simp [h1, h2]
theorem lrc_le (l : List UInt8) : lrc l ≤ l.length := by
  induction l with
  | nil => decide
  | cons c t ih => rw [lrc_cons, List.length_cons]; split <;> omega
theorem byte_eq (c : UInt8) (n : Nat) (hn : n < 256) : ((c.toNat : Int) = (n : Int)) ↔ c = UInt8.ofNat n := by
  have e : (UInt8.ofNat n).toNat = n := (show (UInt8.ofNat n).toNat = n % 256 from rfl).trans (Nat.mod_eq_of_lt hn)
  constructor
  · intro h
    apply UInt8.toNat_inj.1
    rw [e]
    omega
  · rintro rfl
    rw [e]
def okSch (a b : Int) (s : ByteArray) : Prop := ∃ i j : Nat, i ≤ 3 ∧ j ≤ 3 ∧ a = ((2 ^ i : Nat) : Int) ∧ b = ((2 ^ j : Nat) : Int) ∧ (∀ x ∈ s.data.toList, ([76, 82, 84, 66] : List UInt8).contains x = true) ∧ lrc s.data.toList = i ∧ s.data.toList.length = i + j
theorem side_cases (a : Int) : (∃ j : Nat, j ≤ 3 ∧ a = ((2 ^ j : Nat) : Int) ∧ spec_l04Power.f a = some ((j : Int), true) ∧ impl_isSide.f a = some true ∧ Ev (fun k => impl_halvings.f k a) (j : Int)) ∨ (spec_l04Power.f a = some (0, false) ∧ impl_isSide.f a = some false) := by
  by_cases h1 : a = 1
  · subst h1; exact .inl ⟨0, by decide, by decide, by decide +kernel, by decide +kernel, Ev.of (impl_halvings.mono _) (k := 10) (by decide +kernel)⟩
  by_cases h2 : a = 2
  · subst h2; exact .inl ⟨1, by decide, by decide, by decide +kernel, by decide +kernel, Ev.of (impl_halvings.mono _) (k := 10) (by decide +kernel)⟩
  by_cases h4 : a = 4
  · subst h4; exact .inl ⟨2, by decide, by decide, by decide +kernel, by decide +kernel, Ev.of (impl_halvings.mono _) (k := 10) (by decide +kernel)⟩
  by_cases h8 : a = 8
  · subst h8; exact .inl ⟨3, by decide, by decide, by decide +kernel, by decide +kernel, Ev.of (impl_halvings.mono _) (k := 10) (by decide +kernel)⟩
  · refine .inr ⟨?_, ?_⟩
    · unfold spec_l04Power.f
      rw [if_neg h1, if_neg h2, if_neg h4, if_neg h8]
    · unfold impl_isSide.f
      rw [if_neg h1, if_neg h2, if_neg h4, show (a == 8) = false from beq_false_of_ne h8]
theorem trim_nil (cs : List UInt8) : ∀ l : List UInt8, Go.Lib.trimS l cs = [] ↔ ∀ b ∈ l, cs.contains b = true := by
  have dw : ∀ l : List UInt8, l.dropWhile (cs.contains ·) = [] ↔ ∀ b ∈ l, cs.contains b = true := by
    intro l
    induction l with
    | nil => simp
    | cons a t ih =>
      rw [List.dropWhile_cons]
      by_cases h : cs.contains a = true
      · rw [if_pos h, ih]
        exact ⟨fun g b hb => by rcases List.mem_cons.1 hb with rfl | hb; exact h; exact g b hb, fun g b hb => g b (List.mem_cons_of_mem _ hb)⟩
      · rw [if_neg h]
        exact ⟨fun g => (List.cons_ne_nil _ _ g).elim, fun g => absurd (g a List.mem_cons_self) h⟩
  intro l
  unfold Go.Lib.trimS Go.Lib.trimLeftS
  rw [dw]
  unfold Go.Lib.trimRightS
  constructor
  · intro g
    have e : l.reverse.dropWhile (cs.contains ·) = [] := by
      cases hd : l.reverse.dropWhile (cs.contains ·) with
      | nil => rfl
      | cons a t =>
        have h1 := List.head?_dropWhile_not (cs.contains ·) l.reverse
        rw [hd] at h1 g
        have h2 := g a (by simp)
        simp only [List.head?_cons] at h1
        rw [h2] at h1
        cases h1
    intro b hb
    exact (dw l.reverse).1 e b (List.mem_reverse.2 hb)
  · intro g
    have e := (dw l.reverse).2 (fun b hb => g b (List.mem_reverse.1 hb))
    rw [e]
    intro b hb
    simp at hb
def sL (one two : Bool) : List UInt8 → Int → Int → Bool
  | [], a, b => if one = true then (if two = true then (if a = 0 then b == 0 else false) else false) else false
  | c :: t, a, b => if c = 76 ∨ c = 82 then sL one two t (a - 1) b else if c = 84 ∨ c = 66 then sL one two t a (b - 1) else false
theorem sL_iff (one two : Bool) : ∀ (l : List UInt8) (a b : Int), sL one two l a b = true ↔ (∀ x ∈ l, ([76, 82, 84, 66] : List UInt8).contains x = true) ∧ one = true ∧ two = true ∧ a = (lrc l : Int) ∧ b = (l.length : Int) - (lrc l : Int)
  | [], a, b => by
    rw [sL, show lrc [] = 0 from rfl]
    cases one <;> cases two <;> simp <;> omega
  | c :: t, a, b => by
    rw [sL, lrc_cons, List.length_cons]
    by_cases h1 : c = 76 ∨ c = 82
    · rw [if_pos h1, if_pos h1, sL_iff one two t]
      have hc : ([76, 82, 84, 66] : List UInt8).contains c = true := by rcases h1 with rfl | rfl <;> decide
      constructor
      · rintro ⟨g1, g2, g3, g4, g5⟩
        exact ⟨fun x hx => by rcases List.mem_cons.1 hx with rfl | hx; exact hc; exact g1 x hx, g2, g3, by omega, by omega⟩
      · rintro ⟨g1, g2, g3, g4, g5⟩
        exact ⟨fun x hx => g1 x (List.mem_cons_of_mem _ hx), g2, g3, by omega, by omega⟩
    · rw [if_neg h1, if_neg h1]
      by_cases h2 : c = 84 ∨ c = 66
      · rw [if_pos h2, sL_iff one two t]
        have hc : ([76, 82, 84, 66] : List UInt8).contains c = true := by rcases h2 with rfl | rfl <;> decide
        constructor
        · rintro ⟨g1, g2, g3, g4, g5⟩
          exact ⟨fun x hx => by rcases List.mem_cons.1 hx with rfl | hx; exact hc; exact g1 x hx, g2, g3, by omega, by omega⟩
        · rintro ⟨g1, g2, g3, g4, g5⟩
          exact ⟨fun x hx => g1 x (List.mem_cons_of_mem _ hx), g2, g3, by omega, by omega⟩
      · rw [if_neg h2]
        constructor
        · intro z; cases z
        · rintro ⟨g1, _⟩
          have := g1 c List.mem_cons_self
          simp only [List.contains_cons, List.contains_nil, Bool.or_false, Bool.or_eq_true, beq_iff_eq] at this
          rcases this with e | e | e | e
          · exact (h1 (.inl e)).elim
          · exact (h1 (.inr e)).elim
          · exact (h2 (.inl e)).elim
          · exact (h2 (.inr e)).elim
theorem specIsScheme_loop (s : ByteArray) (one two : Bool) (hs : s.size ≤ 1048576) : ∀ (d i : Nat), i + d = s.size → ∀ a b : Int, -4000000 ≤ a - (d : Int) → a ≤ 4000000 → -4000000 ≤ b - (d : Int) → b ≤ 4000000 → Ev (fun k => spec_IsScheme.l0 k s a one b two (i : Int)) (sL one two (s.data.toList.drop i) a b) := by
  have hz : s.size = s.data.toList.length := by simp
  intro d
  induction d with
  | zero =>
    intro i hi a b _ _ _ _
    rw [List.drop_of_length_le (by omega), sL]
    refine Ev.step (f := fun _ => some (if one = true then (if two = true then (if a = 0 then b == 0 else false) else false) else false)) (fun k => ?_) (Ev.now _)
    rw [spec_IsScheme.l0, if_neg (by omega)]
    cases one <;> cases two <;> by_cases h : a = 0 <;> simp [h]
  | succ d ih =>
    intro i hi a b h1 h2 h3 h4
    have hil : i < s.data.toList.length := by omega
    rw [List.drop_eq_getElem_cons hil, sL]
    have hb := bt_list s i (by omega)
    generalize s.data.toList[i] = c at hb
    have b76 := byte_eq c 76 (by omega)
    have b82 := byte_eq c 82 (by omega)
    have b84 := byte_eq c 84 (by omega)
    have b66 := byte_eq c 66 (by omega)
    have e76 : bt s (i : Int) = 76 ↔ c = 76 := by rw [hb]; exact b76
    have e82 : bt s (i : Int) = 82 ↔ c = 82 := by rw [hb]; exact b82
    have e84 : bt s (i : Int) = 84 ↔ c = 84 := by rw [hb]; exact b84
    have e66 : bt s (i : Int) = 66 ↔ c = 66 := by rw [hb]; exact b66
    have step : ∀ r, Ev (fun k => spec_IsScheme.j1 k s a one b two (i : Int) (bt s (i : Int)) (decide (c = 76 ∨ c = 82))) r → Ev (fun k => spec_IsScheme.l0 k s a one b two (i : Int)) r := by
      intro r hr
      refine Ev.step (fun k => ?_) hr
      rw [spec_IsScheme.l0, if_pos (by omega), if_pos (by omega)]
      by_cases c1 : bt s (i : Int) = 76
      · rw [if_pos c1, show ((bt s (i : Int)) == 76) = true from by rw [c1]; rfl, decide_eq_true (.inl (e76.1 c1))]
      · rw [if_neg c1]
        by_cases c2 : bt s (i : Int) = 82
        · rw [show ((bt s (i : Int)) == 82) = true from by rw [c2]; rfl, decide_eq_true (.inr (e82.1 c2))]
        · rw [show ((bt s (i : Int)) == 82) = false from beq_false_of_ne c2, decide_eq_false (fun z => by rcases z with z | z; exact c1 (e76.2 z); exact c2 (e82.2 z))]
    apply step
    by_cases g1 : c = 76 ∨ c = 82
    · rw [if_pos g1, decide_eq_true g1]
      refine Ev.step (fun k => by rw [spec_IsScheme.j1, if_pos rfl, w64n i (by omega), w64 (x := a - 1) (by omega) (by omega)]) ?_
      exact ih (i + 1) (by omega) _ _ (by omega) (by omega) (by omega) (by omega)
    · rw [if_neg g1, decide_eq_false g1]
      by_cases g2 : c = 84 ∨ c = 66
      · rw [if_pos g2]
        refine Ev.step (f := fun k => spec_IsScheme.l0 k s a one (b - 1) two ((i + 1 : Nat) : Int)) (fun k => ?_) (ih (i + 1) (by omega) _ _ (by omega) (by omega) (by omega) (by omega))
        rw [spec_IsScheme.j1, if_neg (by simp), w64n i (by omega), w64 (x := b - 1) (by omega) (by omega)]
        by_cases c3 : bt s (i : Int) = 84
        · rw [if_pos c3]
        · rw [if_neg c3, if_pos (e66.2 (by rcases g2 with z | z; exact (c3 (e84.2 z)).elim; exact z))]
      · rw [if_neg g2]
        refine Ev.step (f := fun _ => some false) (fun k => ?_) (Ev.now _)
        rw [spec_IsScheme.j1, if_neg (by simp), if_neg (fun z => g2 (.inl (e84.1 z))), if_neg (fun z => g2 (.inr (e66.1 z)))]
theorem isScheme_two (a b : Int) (s : ByteArray) (hs : s.size ≤ 1048576) : ∃ v : Bool, Ev (fun k => spec_IsScheme.f k a b s) v ∧ Ev (fun k => impl_IsScheme.f k a b s) v ∧ (v = true → ∃ i j : Nat, i ≤ 3 ∧ j ≤ 3 ∧ a = ((2 ^ i : Nat) : Int) ∧ b = ((2 ^ j : Nat) : Int) ∧ (∀ x ∈ s.data.toList, ([76, 82, 84, 66] : List UInt8).contains x = true) ∧ lrc s.data.toList = i ∧ s.data.toList.length = i + j) := by
  have hz : s.size = s.data.toList.length := by simp
  have hle := lrc_le s.data.toList
  have spec : ∀ (i j : Nat) (one two : Bool), i ≤ 3 → j ≤ 3 → spec_l04Power.f a = some ((i : Int), one) → spec_l04Power.f b = some ((j : Int), two) → Ev (fun k => spec_IsScheme.f k a b s) (sL one two s.data.toList (i : Int) (j : Int)) := by
    intro i j one two hi hj p1 p2
    unfold spec_IsScheme.f
    rw [p1, p2]
    refine Ev.bind (Ev.now _) (Ev.bind (Ev.now _) ?_)
    have := specIsScheme_loop s one two hs s.size 0 (by omega) (i : Int) (j : Int) (by omega) (by omega) (by omega) (by omega)
    rw [List.drop_zero] at this
    exact Ev.congr (fun k => rfl) this
  have no : ∀ (i j : Nat) (one two : Bool), (one = false ∨ two = false) → sL one two s.data.toList (i : Int) (j : Int) = false := by
    intro i j one two h
    rw [Bool.eq_false_iff]
    intro z
    obtain ⟨_, z1, z2, _⟩ := (sL_iff _ _ _ _ _).1 z
    rcases h with h | h
    · rw [h] at z1; cases z1
    · rw [h] at z2; cases z2
  have bad : impl_isSheet.f a b = some false → Ev (fun k => impl_IsScheme.f k a b s) false := by
    intro h
    unfold impl_IsScheme.f
    rw [h]
    exact Ev.bind (Ev.now _) (Ev_ite_f (by simp) (Ev.now _))
  rcases side_cases a with ⟨i, i1, i2, i3, i4, i5⟩ | ⟨i3, i4⟩
  · rcases side_cases b with ⟨j, j1, j2, j3, j4, j5⟩ | ⟨j3, j4⟩
    · have hsh : impl_isSheet.f a b = some true := by unfold impl_isSheet.f; rw [i4, j4]; rfl
      refine ⟨_, spec i j true true i1 j1 i3 j3, ?_, ?_⟩
      · unfold impl_IsScheme.f
        rw [hsh]
        refine Ev.bind (Ev.now _) (Ev_ite_t rfl (Ev_ite_t hs ?_))
        have hiff := sL_iff true true s.data.toList (i : Int) (j : Int)
        have hlr : lrcount s = lrc s.data.toList := rfl
        by_cases ht : Go.Lib.trimS s.data.toList [76, 82, 84, 66] = []
        · refine Ev_ite_t ht (Ev.bind i5 ?_)
          have hall := (trim_nil _ _).1 ht
          by_cases hc : (lrcount s : Int) = (i : Int)
          · refine Ev_ite_t hc (Ev.bind j5 ?_)
            have e : sL true true s.data.toList (i : Int) (j : Int) = decide ((s.size : Int) - (lrcount s : Int) = (j : Int)) := by
              rw [Bool.eq_iff_iff, hiff, decide_eq_true_iff]
              constructor
              · rintro ⟨_, _, _, g1, g2⟩
                rw [hz, hlr, g2]
              · intro g
                exact ⟨hall, rfl, rfl, by rw [← hlr, hc], by rw [← hlr, ← hz, g]⟩
            rw [e]
            exact Ev.now _
          · rw [show sL true true s.data.toList (i : Int) (j : Int) = false from by
              rw [Bool.eq_false_iff]; intro z
              obtain ⟨_, _, _, z4, _⟩ := hiff.1 z
              exact hc (by rw [hlr, z4])]
            exact Ev_ite_f hc (Ev.now _)
        · rw [show sL true true s.data.toList (i : Int) (j : Int) = false from by
            rw [Bool.eq_false_iff]; intro z
            exact ht ((trim_nil _ _).2 (hiff.1 z).1)]
          exact Ev_ite_f ht (Ev.now _)
      · intro z
        obtain ⟨z1, _, _, z4, z5⟩ := (sL_iff _ _ _ _ _).1 z
        exact ⟨i, j, i1, j1, i2, j2, z1, by omega, by omega⟩
    · have hsh : impl_isSheet.f a b = some false := by unfold impl_isSheet.f; rw [i4, j4]; rfl
      have e := spec i 0 true false i1 (by omega) i3 j3
      rw [no i 0 true false (.inr rfl)] at e
      exact ⟨false, e, bad hsh, fun z => by cases z⟩
  · have hsh : impl_isSheet.f a b = some false := by unfold impl_isSheet.f; rw [i4]; rfl
    rcases side_cases b with ⟨j, j1, j2, j3, j4, j5⟩ | ⟨j3, j4⟩
    · have e := spec 0 j false true (by omega) j1 i3 j3
      rw [no 0 j false true (.inl rfl)] at e
      exact ⟨false, e, bad hsh, fun z => by cases z⟩
    · have e := spec 0 0 false false (by omega) (by omega) i3 j3
      rw [no 0 0 false false (.inl rfl)] at e
      exact ⟨false, e, bad hsh, fun z => by cases z⟩
theorem sheet_cases (a b : Int) : (∃ i j : Nat, i ≤ 3 ∧ j ≤ 3 ∧ a = ((2 ^ i : Nat) : Int) ∧ b = ((2 ^ j : Nat) : Int) ∧ spec_l04Power.f a = some ((i : Int), true) ∧ spec_l04Power.f b = some ((j : Int), true) ∧ spec_l04Sheet.f a b = some true ∧ impl_isSheet.f a b = some true ∧ Ev (fun k => impl_halvings.f k a) (i : Int) ∧ Ev (fun k => impl_halvings.f k b) (j : Int)) ∨ (spec_l04Sheet.f a b = some false ∧ impl_isSheet.f a b = some false) := by
  unfold spec_l04Sheet.f impl_isSheet.f
  rcases side_cases a with ⟨i, i1, i2, i3, i4, i5⟩ | ⟨i3, i4⟩
  · rcases side_cases b with ⟨j, j1, j2, j3, j4, j5⟩ | ⟨j3, j4⟩
    · exact .inl ⟨i, j, i1, j1, i2, j2, i3, j3, by rw [i3, j3]; rfl, by rw [i4, j4]; rfl, i5, j5⟩
    · exact .inr ⟨by rw [i3, j3]; rfl, by rw [i4, j4]; rfl⟩
  · refine .inr ⟨?_, by rw [i4]; rfl⟩
    rw [i3]
    rcases side_cases b with ⟨j, j1, j2, j3, j4, j5⟩ | ⟨j3, j4⟩
    · rw [j3]; rfl
    · rw [j3]; rfl
theorem codes_two (a b : Int) (s : ByteArray) (hs : s.size ≤ 1048576) : ∃ c : Int, Ev (fun k => spec_l04Code.f k a b s) c ∧ Ev (fun k => impl_checkScheme.f k a b s) c ∧ 0 ≤ c ∧ c ≤ 2 ∧ (c = 0 → okSch a b s) := by
  obtain ⟨v, v1, v2, v3⟩ := isScheme_two a b s hs
  unfold spec_l04Code.f impl_checkScheme.f
  rcases sheet_cases a b with ⟨i, j, _, _, _, _, _, _, s1, s2, _, _⟩ | ⟨s1, s2⟩
  · rw [s1, s2]
    cases hv : v with
    | true =>
      rw [hv] at v1 v2
      exact ⟨0, Ev.bind (Ev.now _) (Ev_ite_t rfl (Ev.bind v1 (Ev_ite_t rfl (Ev.now _)))), Ev.bind (Ev.now _) (Ev_ite_t rfl (Ev.bind v2 (Ev_ite_t rfl (Ev.now _)))), by omega, by omega, fun _ => v3 hv⟩
    | false =>
      rw [hv] at v1 v2
      exact ⟨2, Ev.bind (Ev.now _) (Ev_ite_t rfl (Ev.bind v1 (Ev_ite_f (by simp) (Ev.now _)))), Ev.bind (Ev.now _) (Ev_ite_t rfl (Ev.bind v2 (Ev_ite_f (by simp) (Ev.now _)))), by omega, by omega, fun z => by omega⟩
  · rw [s1, s2]
    exact ⟨1, Ev.bind (Ev.now _) (Ev_ite_f (by simp) (Ev.now _)), Ev.bind (Ev.now _) (Ev_ite_f (by simp) (Ev.now _)), by omega, by omega, fun z => by omega⟩
def mirT (s : ByteArray) : ByteArray := ⟨(s.data.toList.map miSw).toArray⟩
theorem smSw_eq : smSw = miSw := rfl
theorem mirrorS_two {a b c : Int} {s : ByteArray} (hs : s.size ≤ 1048576) (h1 : Ev (fun k => spec_l04Code.f k a b s) c) (h2 : Ev (fun k => impl_checkScheme.f k a b s) c) : ∃ v : ByteArray × Int, Ev (fun k => spec_MirrorScheme.f k a b s) v ∧ Ev (fun k => impl_MirrorScheme.f k a b s) v ∧ v.2 = c ∧ (c = 0 → v.1 = mirT s) := by
  unfold spec_MirrorScheme.f impl_MirrorScheme.f
  by_cases hc : c = 0
  · refine ⟨(mirT s, 0), Ev.bind h1 (Ev_ite_t hc (Ev_ite_t hs ?_)), Ev.bind h2 (Ev_ite_t hc ?_), hc.symm, fun _ => rfl⟩
    · rw [smSw_eq]; exact Ev.now _
    · unfold impl_mirrored.f
      rw [if_pos hs]
      exact Ev.bind (Ev.now _) (Ev.now _)
  · exact ⟨(⟨#[]⟩, c), Ev.bind h1 (Ev_ite_f hc (Ev.now _)), Ev.bind h2 (Ev_ite_f hc (Ev.now _)), rfl, fun h => absurd h hc⟩
theorem FnExactMirrorScheme : laws_FnExactMirrorScheme.Pure := by
  intro a b s ha hb hs
  apply Ev.rounds
  unfold laws_FnExactMirrorScheme.f
  by_cases hl : (s.size : Int) > 1048576
  · exact Ev_ite_t hl (Ev.now _)
  · refine Ev_ite_f hl ?_
    obtain ⟨c, h1, h2, _⟩ := codes_two a b s (by omega)
    obtain ⟨v, g1, g2, _⟩ := mirrorS_two (by omega) h1 h2
    exact Ev.bind g1 (Ev.bind g2 (Ev_ite_t rfl (Ev_ite_t rfl (Ev.now _))))

end Go.Proofs.YtdpmpoakjhhaaaaGreatDoor.Pure
