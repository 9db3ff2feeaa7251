/- The pure statement of FnExactImposeSheet: for every input that the row lets in, the law's Lean function answers true; no further condition. -/
import Derived.Test.YtkpidjmhdagkfaaDoorQFnExactImposeSheetx11
set_option linter.unusedVariables false
set_option linter.unusedSimpArgs false
namespace Go.Proofs.YtkpidjmhdagkfaaDoor.Pure
open Go.RowKit Go.Proofs.YtkpidjmhdagkfaaDoor.QFnExactImposeSheet Go.Proofs.YtkpidjmhdagkfaaDoorW.PrintWords Go.Proofs.YtkpidjmhdagkfaaDoorW.PrintLast

theorem w64 {x : Int} (h0 : -9223372036854775808 ≤ x) (h1 : x ≤ 9223372036854775807) : wrap64 x = x := by unfold wrap64; omega
theorem rd_nat (xs : List Int) (i : Nat) : rd xs (i : Int) = xs.getD i 0 := by simp [rd]
theorem rd_set {xs : List Int} {i j : Nat} {v : Int} (hi : i < xs.length) : rd (xs.set i v) (j : Int) = if i = j then v else rd xs (j : Int) := by
  simp only [rd_nat, List.getD_eq_getElem?_getD, List.getElem?_set]
  by_cases h : i = j
  · subst h; simp [hi]
  · simp [h]
theorem toNat_cast (i : Nat) : ((i : Nat) : Int).toNat = i := Int.toNat_natCast i
theorem Ev_ite_t {α : Type} {c : Prop} [Decidable c] {f g : Nat → Option α} {r : α} (h : c) (k : Ev f r) : Ev (fun n => if c then f n else g n) r :=
  Ev.congr (fun _ => if_pos h) k
theorem Ev_ite_f {α : Type} {c : Prop} [Decidable c] {f g : Nat → Option α} {r : α} (h : ¬ c) (k : Ev g r) : Ev (fun n => if c then f n else g n) r :=
  Ev.congr (fun _ => if_neg h) k
theorem w64n (i : Nat) (h : i < 9223372036854775807) : wrap64 ((i : Int) + 1) = ((i + 1 : Nat) : Int) := by
  rw [w64 (by omega) (by omega)]; rfl
theorem bt_list (s : ByteArray) (i : Nat) (h : i < s.size) : bt s (i : Int) = ((s.data.toList[i]'(by simpa using h)).toNat : Int) := by
  unfold bt
  rw [dif_pos (by rw [Int.toNat_natCast]; exact h)]
  simp [ByteArray.getElem_eq_getElem_data]
def lrc (l : List UInt8) : Nat := List.count 76 l + List.count 82 l
theorem lrc_cons (c : UInt8) (t : List UInt8) : lrc (c :: t) = lrc t + (if c = 76 ∨ c = 82 then 1 else 0) := by
  unfold lrc
  rw [List.count_cons, List.count_cons]
  by_cases h1 : c = 76
  · subst h1; simp; omega
  · by_cases h2 : c = 82
    · subst h2; simp; omega
    · simp [h1, h2]
theorem lrc_le (l : List UInt8) : lrc l ≤ l.length := by
  induction l with
  | nil => decide
  | cons c t ih => rw [lrc_cons, List.length_cons]; split <;> omega
theorem byte_eq (c : UInt8) (n : Nat) (hn : n < 256) : ((c.toNat : Int) = (n : Int)) ↔ c = UInt8.ofNat n := by
  have e : (UInt8.ofNat n).toNat = n := (show (UInt8.ofNat n).toNat = n % 256 from rfl).trans (Nat.mod_eq_of_lt hn)
  constructor
  · intro h
    apply UInt8.toNat_inj.1
    rw [e]
    omega
  · rintro rfl
    rw [e]
def sL (one two : Bool) : List UInt8 → Int → Int → Bool
  | [], a, b => if one = true then (if two = true then (if a = 0 then b == 0 else false) else false) else false
  | c :: t, a, b => if c = 76 ∨ c = 82 then sL one two t (a - 1) b else if c = 84 ∨ c = 66 then sL one two t a (b - 1) else false
theorem sL_iff (one two : Bool) : ∀ (l : List UInt8) (a b : Int), sL one two l a b = true ↔ (∀ x ∈ l, ([76, 82, 84, 66] : List UInt8).contains x = true) ∧ one = true ∧ two = true ∧ a = (lrc l : Int) ∧ b = (l.length : Int) - (lrc l : Int)
  | [], a, b => by
    rw [sL, show lrc [] = 0 from rfl]
    cases one <;> cases two <;> simp <;> omega
  | c :: t, a, b => by
    rw [sL, lrc_cons, List.length_cons]
    by_cases h1 : c = 76 ∨ c = 82
    · rw [if_pos h1, if_pos h1, sL_iff one two t]
      have hc : ([76, 82, 84, 66] : List UInt8).contains c = true := by rcases h1 with rfl | rfl <;> decide
      constructor
      · rintro ⟨g1, g2, g3, g4, g5⟩
        exact ⟨fun x hx => by rcases List.mem_cons.1 hx with rfl | hx; exact hc; exact g1 x hx, g2, g3, by omega, by omega⟩
      · rintro ⟨g1, g2, g3, g4, g5⟩
        exact ⟨fun x hx => g1 x (List.mem_cons_of_mem _ hx), g2, g3, by omega, by omega⟩
    · rw [if_neg h1, if_neg h1]
      by_cases h2 : c = 84 ∨ c = 66
      · rw [if_pos h2, sL_iff one two t]
        have hc : ([76, 82, 84, 66] : List UInt8).contains c = true := by rcases h2 with rfl | rfl <;> decide
        constructor
        · rintro ⟨g1, g2, g3, g4, g5⟩
          exact ⟨fun x hx => by rcases List.mem_cons.1 hx with rfl | hx; exact hc; exact g1 x hx, g2, g3, by omega, by omega⟩
        · rintro ⟨g1, g2, g3, g4, g5⟩
          exact ⟨fun x hx => g1 x (List.mem_cons_of_mem _ hx), g2, g3, by omega, by omega⟩
      · rw [if_neg h2]
        constructor
        · intro z; cases z
        · rintro ⟨g1, _⟩
          have := g1 c List.mem_cons_self
          simp only [List.contains_cons, List.contains_nil, Bool.or_false, Bool.or_eq_true, beq_iff_eq] at this
          rcases this with e | e | e | e
          · exact (h1 (.inl e)).elim
          · exact (h1 (.inr e)).elim
          · exact (h2 (.inl e)).elim
          · exact (h2 (.inr e)).elim
theorem specIsScheme_loop (s : ByteArray) (one two : Bool) (hs : s.size ≤ 1048576) : ∀ (d i : Nat), i + d = s.size → ∀ a b : Int, -4000000 ≤ a - (d : Int) → a ≤ 4000000 → -4000000 ≤ b - (d : Int) → b ≤ 4000000 → Ev (fun k => spec_IsScheme.l0 k s a one b two (i : Int)) (sL one two (s.data.toList.drop i) a b) := by
  have hz : s.size = s.data.toList.length := by simp
  intro d
  induction d with
  | zero =>
    intro i hi a b _ _ _ _
    rw [List.drop_of_length_le (by omega), sL]
    refine Ev.step (f := fun _ => some (if one = true then (if two = true then (if a = 0 then b == 0 else false) else false) else false)) (fun k => ?_) (Ev.now _)
    rw [spec_IsScheme.l0, if_neg (by omega)]
    cases one <;> cases two <;> by_cases h : a = 0 <;> simp [h]
  | succ d ih =>
    intro i hi a b h1 h2 h3 h4
    have hil : i < s.data.toList.length := by omega
    rw [List.drop_eq_getElem_cons hil, sL]
    have hb := bt_list s i (by omega)
    generalize s.data.toList[i] = c at hb
    have b76 := byte_eq c 76 (by omega)
    have b82 := byte_eq c 82 (by omega)
    have b84 := byte_eq c 84 (by omega)
    have b66 := byte_eq c 66 (by omega)
    have e76 : bt s (i : Int) = 76 ↔ c = 76 := by rw [hb]; exact b76
    have e82 : bt s (i : Int) = 82 ↔ c = 82 := by rw [hb]; exact b82
    have e84 : bt s (i : Int) = 84 ↔ c = 84 := by rw [hb]; exact b84
    have e66 : bt s (i : Int) = 66 ↔ c = 66 := by rw [hb]; exact b66
    have step : ∀ r, Ev (fun k => spec_IsScheme.j1 k s a one b two (i : Int) (bt s (i : Int)) (decide (c = 76 ∨ c = 82))) r → Ev (fun k => spec_IsScheme.l0 k s a one b two (i : Int)) r := by
      intro r hr
      refine Ev.step (fun k => ?_) hr
      rw [spec_IsScheme.l0, if_pos (by omega), if_pos (by omega)]
      by_cases c1 : bt s (i : Int) = 76
      · rw [if_pos c1, show ((bt s (i : Int)) == 76) = true from by rw [c1]; rfl, decide_eq_true (.inl (e76.1 c1))]
      · rw [if_neg c1]
        by_cases c2 : bt s (i : Int) = 82
        · rw [show ((bt s (i : Int)) == 82) = true from by rw [c2]; rfl, decide_eq_true (.inr (e82.1 c2))]
        · rw [show ((bt s (i : Int)) == 82) = false from beq_false_of_ne c2, decide_eq_false (fun z => by rcases z with z | z; exact c1 (e76.2 z); exact c2 (e82.2 z))]
    apply step
    by_cases g1 : c = 76 ∨ c = 82
    · rw [if_pos g1, decide_eq_true g1]
      refine Ev.step (fun k => by rw [spec_IsScheme.j1, if_pos rfl, w64n i (by omega), w64 (x := a - 1) (by omega) (by omega)]) ?_
      exact ih (i + 1) (by omega) _ _ (by omega) (by omega) (by omega) (by omega)
    · rw [if_neg g1, decide_eq_false g1]
      by_cases g2 : c = 84 ∨ c = 66
      · rw [if_pos g2]
        refine Ev.step (f := fun k => spec_IsScheme.l0 k s a one (b - 1) two ((i + 1 : Nat) : Int)) (fun k => ?_) (ih (i + 1) (by omega) _ _ (by omega) (by omega) (by omega) (by omega))
        rw [spec_IsScheme.j1, if_neg (by simp), w64n i (by omega), w64 (x := b - 1) (by omega) (by omega)]
        by_cases c3 : bt s (i : Int) = 84
        · rw [if_pos c3]
        · rw [if_neg c3, if_pos (e66.2 (by rcases g2 with z | z; exact (c3 (e84.2 z)).elim; exact z))]
      · rw [if_neg g2]
        refine Ev.step (f := fun _ => some false) (fun k => ?_) (Ev.now _)
        rw [spec_IsScheme.j1, if_neg (by simp), if_neg (fun z => g2 (.inl (e84.1 z))), if_neg (fun z => g2 (.inr (e66.1 z)))]
abbrev SL := S35
def gridL (H W : Nat) (g : Nat → Nat → List SL) : List (List (List SL)) := (List.range H).map fun y => (List.range W).map (g y)
theorem gridL_len (H W : Nat) (g : Nat → Nat → List SL) : (gridL H W g).length = H := by simp [gridL]
theorem gridL_row {H W : Nat} {g : Nat → Nat → List SL} {y : Nat} (h : y < H) : rd_L4 (gridL H W g) (y : Int) = (List.range W).map (g y) := by
  unfold rd_L4 gridL
  rw [Int.toNat_natCast, List.getD_eq_getElem?_getD, List.getElem?_map, List.getElem?_range h]
  rfl
theorem gridL_getD {H W : Nat} {g : Nat → Nat → List SL} {y : Nat} (h : y < H) : (gridL H W g).getD y [] = (List.range W).map (g y) := gridL_row (W := W) (g := g) h
theorem row_cell {W : Nat} {f : Nat → List SL} {x : Nat} (h : x < W) : rd_L3 ((List.range W).map f) (x : Int) = f x := by
  unfold rd_L3
  rw [Int.toNat_natCast, List.getD_eq_getElem?_getD, List.getElem?_map, List.getElem?_range h]
  rfl
theorem row_getD {W : Nat} {f : Nat → List SL} {x : Nat} (h : x < W) : ((List.range W).map f).getD x [] = f x := row_cell h
theorem row_len (W : Nat) (f : Nat → List SL) : ((List.range W).map f).length = W := by simp
theorem row_snoc {α : Type} (x : Nat) (f : Nat → α) : (List.range x).map f ++ [f x] = (List.range (x + 1)).map f := by rw [List.range_succ, List.map_append]; rfl
def turnL (a : Bool) (l : List SL) : List SL := l.reverse.map (spec_l04Turn.togg a)
theorem turnL_len (a : Bool) (l : List SL) : (turnL a l).length = l.length := by simp [turnL]
theorem specTurn_eq {l : List SL} (a : Bool) (h : l.length ≤ 64) : spec_l04Turn.f l a = some (turnL a l) := by unfold spec_l04Turn.f; rw [if_pos (by omega)]; rfl
def ovr (f : Bool) (h i : Nat) : Nat := if f = true then h - 1 - i else 2 * h - 1 - i
def und (f : Bool) (h i : Nat) : Nat := if f = true then h + i else i
def gAlong (f : Bool) (W : Nat) (g : Nat → Nat → List SL) : Nat → Nat → List SL := fun y x => turnL true (g y (ovr f W x)) ++ g y (und f W x)
def gAcross (f : Bool) (H : Nat) (g : Nat → Nat → List SL) : Nat → Nat → List SL := fun y x => turnL false (g (ovr f H y) x) ++ g (und f H y) x
theorem tdiv2 (h : Nat) (hh : h ≤ 100) : wrap64 (Int.tdiv ((2 * h : Nat) : Int) 2) = (h : Int) := by rw [Int.tdiv_eq_ediv_of_nonneg (by omega), w64 (by omega) (by omega)]; omega
theorem ltc {a b : Nat} (h : a < b) : (a : Int) < (b : Int) := Int.ofNat_lt.2 h
theorem nn (a : Nat) : 0 ≤ (a : Int) := Int.natCast_nonneg a
theorem nltc {a b : Nat} (h : ¬ a < b) : ¬ (a : Int) < (b : Int) := fun z => h (Int.ofNat_lt.1 z)
theorem w2a {W x : Nat} (hW : W ≤ 8) (h : x < W) : wrap64 (wrap64 ((W : Int) - 1) - (x : Int)) = ((W - 1 - x : Nat) : Int) := by rw [w64 (x := (W : Int) - 1) (by omega) (by omega), w64 (by omega) (by omega)]; omega
theorem w2b {W x : Nat} (hW : W ≤ 8) (h : x ≤ W) : wrap64 ((W : Int) + (x : Int)) = ((W + x : Nat) : Int) := by rw [w64 (by omega) (by omega)]; omega
theorem gA_t (W : Nat) (g : Nat → Nat → List SL) (y x : Nat) : gAlong true W g y x = turnL true (g y (W - 1 - x)) ++ g y (W + x) := rfl
theorem gA_f (W : Nat) (g : Nat → Nat → List SL) (y x : Nat) : gAlong false W g y x = turnL true (g y (2 * W - 1 - x)) ++ g y x := rfl
theorem sumb {a b : List SL} (t : Bool) (ha : a.length ≤ 64) (hb : b.length ≤ 64) : (turnL t a).length + b.length < 5864062014805 := by rw [turnL_len]; omega
theorem lenb {α : Type} {l : List α} (h : l.length ≤ 8) : l.length < 5864062014805 := by omega
-- one row, folded along
theorem along_in {H W : Nat} {g : Nat → Nat → List SL} (c : Int) (hW : W ≤ 4) (y : Nat) (hy : y < H) (hg : ∀ x, x < 2 * W → (g y x).length ≤ 64) (a5 : List (List (List SL))) (h5 : a5.length ≤ 8) (r : List (List (List SL)))
    (hr : Ev (fun k => spec_l04Along.l0 k (gridL H (2 * W) g) c (a5 ++ [(List.range W).map (gAlong (c == 76) W g y)]) (wrap64 ((y : Int) + 1))) r) :
    ∀ d x : Nat, x + d = W → Ev (fun k => spec_l04Along.l1 k (gridL H (2 * W) g) c a5 (y : Int) ((2 * W : Nat) : Int) ((List.range x).map (gAlong (c == 76) W g y)) (x : Int)) r := by
  have e1 := Aside0.mk (tdiv2 W (by omega))
  have hG : (y : Int) < ((gridL H (2 * W) g).length : Int) := by rw [gridL_len]; exact ltc hy
  have hR := gridL_row (H := H) (W := 2 * W) (g := g) hy
  have hc0 : ∀ i : Nat, i < 2 * W → rd_L3 ((List.range (2 * W)).map (g y)) (i : Int) = g y i := fun i hi => row_cell hi
  have hlen : ∀ i : Nat, i < 2 * W → (i : Int) < (((List.range (2 * W)).map (g y)).length : Int) := fun i hi => by rw [row_len]; exact ltc hi
  generalize gridL H (2 * W) g = G at hr hG hR ⊢
  generalize (List.range (2 * W)).map (g y) = R at hR hc0 hlen
  intro d
  induction d with
  | zero =>
    intro x hx
    obtain rfl : x = W := by omega
    have hn : ¬ (x : Int) < (x : Int) := Int.lt_irrefl _
    exact Ev.step (fun k => by rw [spec_l04Along.l1, e1.out, if_neg hn, if_pos (lenb h5)]) hr
  | succ d ih =>
    intro x hx
    have ih' := ih (x + 1) (by omega)
    have h8 : ((List.range x).map (gAlong (c == 76) W g y)).length ≤ 8 := by rw [row_len]; omega
    rw [← row_snoc, ← w64n x (by omega)] at ih'
    generalize (List.range x).map (gAlong (c == 76) W g y) = acc at ih' h8 ⊢
    clear ih hr
    have f1 : (x : Int) < (W : Int) := ltc (by omega)
    have f4 := hlen (2 * W - 1 - x) (by omega)
    have f5 := hlen x (by omega)
    have e2 := Aside0.mk (w2a (W := 2 * W) (x := x) (by omega) (by omega))
    by_cases hc : c = 76
    · rw [show (c == 76) = true by rw [hc]; rfl, gA_t] at ih'
      have f6 := hlen (W - 1 - x) (by omega)
      have f7 := hlen (W + x) (by omega)
      have l1 := hg (W - 1 - x) (by omega)
      have l2 := hg (W + x) (by omega)
      have e3 := Aside0.mk (w2a (W := W) (x := x) (by omega) (by omega))
      have e4 := Aside0.mk (w2b (W := W) (x := x) (by omega) (by omega))
      have c1 := hc0 (W - 1 - x) (by omega)
      have c2 := hc0 (W + x) (by omega)
      refine Ev.step (fun k => ?_) ih'
      rw [spec_l04Along.l1, e1.out, hR, e2.out, e3.out, e4.out, if_pos f1, if_pos (nn y), if_pos hG, if_pos (nn _), if_pos f4, if_pos (nn x), if_pos f5, if_pos hc, if_pos (nn _), if_pos f6, if_pos (nn _), if_pos f7, c1, c2, specTurn_eq true l1, Option.bind_some, if_pos (sumb true l1 l2), if_pos (lenb h8)]
    · rw [show (c == 76) = false from beq_false_of_ne hc, gA_f] at ih'
      have l1 := hg (2 * W - 1 - x) (by omega)
      have l2 := hg x (by omega)
      have c1 := hc0 (2 * W - 1 - x) (by omega)
      have c2 := hc0 x (by omega)
      refine Ev.step (fun k => ?_) ih'
      rw [spec_l04Along.l1, e1.out, hR, e2.out, if_pos f1, if_pos (nn y), if_pos hG, if_pos (nn _), if_pos f4, if_pos (nn x), if_pos f5, if_neg hc, c1, c2, specTurn_eq true l1, Option.bind_some, if_pos (sumb true l1 l2), if_pos (lenb h8)]
theorem along_ev {H W : Nat} {g : Nat → Nat → List SL} (c : Int) (hH : H ≤ 8) (hW : W ≤ 4) (hg : ∀ y x, y < H → x < 2 * W → (g y x).length ≤ 64) : Ev (fun k => spec_l04Along.f k (gridL H (2 * W) g) c) (gridL H W (gAlong (c == 76) W g)) := by
  have key : ∀ d y : Nat, y + d = H → Ev (fun k => spec_l04Along.l0 k (gridL H (2 * W) g) c ((List.range y).map fun y => (List.range W).map (gAlong (c == 76) W g y)) (y : Int)) (gridL H W (gAlong (c == 76) W g)) := by
    intro d
    induction d with
    | zero =>
      intro y hy
      obtain rfl : y = H := by omega
      have hn : ¬ (y : Int) < ((gridL y (2 * W) g).length : Int) := by rw [gridL_len]; exact Int.lt_irrefl _
      exact Ev.step (f := fun _ => some (gridL y W (gAlong (c == 76) W g))) (fun k => by rw [spec_l04Along.l0, if_neg hn]; rfl) (Ev.now _)
    | succ d ih =>
      intro y hy
      have ih' := ih (y + 1) (by omega)
      rw [← row_snoc, ← w64n y (by omega)] at ih'
      have h := along_in c hW y (show y < H by omega) (fun x hx => hg y x (by omega) hx) _ (by rw [List.length_map, List.length_range]; omega) _ ih' W 0 (by omega)
      have hG : (y : Int) < ((gridL H (2 * W) g).length : Int) := by rw [gridL_len]; exact ltc (by omega)
      have hR : ((rd_L4 (gridL H (2 * W) g) (y : Int)).length : Int) = ((2 * W : Nat) : Int) := by rw [gridL_row (by omega), row_len]
      refine Ev.step (fun k => ?_) h
      rw [spec_l04Along.l0, if_pos hG, if_pos (nn y), hR]
      rfl
  exact key H 0 (by omega)
-- folded across
theorem across_in {G : List (List (List SL))} {W : Nat} (c : Int) (hW : W ≤ 8) (fo fu : Nat → List SL) (hg : ∀ x, x < W → (fo x).length ≤ 64 ∧ (fu x).length ≤ 64) (a6 : List (List (List SL))) (h6 : a6.length ≤ 8) (y : Nat) (n : Int) (r : List (List (List SL)))
    (hr : Ev (fun k => spec_l04Across.l0 k G c n (a6 ++ [(List.range W).map fun x => turnL false (fo x) ++ fu x]) (wrap64 ((y : Int) + 1))) r) :
    ∀ d x : Nat, x + d = W → Ev (fun k => spec_l04Across.l1 k G c n a6 (y : Int) ((List.range W).map fo) ((List.range W).map fu) ((List.range x).map fun x => turnL false (fo x) ++ fu x) (x : Int)) r ∧ Ev (fun k => spec_l04Across.l101 k G c n a6 (y : Int) ((List.range W).map fo) ((List.range W).map fu) ((List.range x).map fun x => turnL false (fo x) ++ fu x) (x : Int)) r := by
  have hO : ∀ i : Nat, i < W → (i : Int) < (((List.range W).map fo).length : Int) := fun i hi => by rw [row_len]; exact ltc hi
  have hU : ∀ i : Nat, i < W → (i : Int) < (((List.range W).map fu).length : Int) := fun i hi => by rw [row_len]; exact ltc hi
  have hN : ¬ (W : Int) < (((List.range W).map fo).length : Int) := by rw [row_len]; exact Int.lt_irrefl _
  have cO : ∀ i : Nat, i < W → rd_L3 ((List.range W).map fo) (i : Int) = fo i := fun i hi => row_cell hi
  have cU : ∀ i : Nat, i < W → rd_L3 ((List.range W).map fu) (i : Int) = fu i := fun i hi => row_cell hi
  generalize (List.range W).map fo = RO at hO hN cO ⊢
  generalize (List.range W).map fu = RU at hU cU ⊢
  intro d
  induction d with
  | zero =>
    intro x hx
    obtain rfl : x = W := by omega
    exact ⟨Ev.step (fun k => by rw [spec_l04Across.l1, if_neg hN, if_pos (lenb h6)]) hr, Ev.step (fun k => by rw [spec_l04Across.l101, if_neg hN, if_pos (lenb h6)]) hr⟩
  | succ d ih =>
    intro x hx
    obtain ⟨i1, i2⟩ := ih (x + 1) (by omega)
    have h10 : ((List.range x).map fun x => turnL false (fo x) ++ fu x).length ≤ 8 := by rw [List.length_map, List.length_range]; omega
    rw [← row_snoc, ← w64n x (by omega)] at i1 i2
    obtain ⟨l1, l2⟩ := hg x (by omega)
    have f1 := hO x (by omega)
    have f2 := hU x (by omega)
    have c1 := cO x (by omega)
    have c2 := cU x (by omega)
    generalize ((List.range x).map fun x => turnL false (fo x) ++ fu x) = acc at i1 i2 h10 ⊢
    clear ih hr
    constructor
    · refine Ev.step (fun k => ?_) i1
      rw [spec_l04Across.l1, if_pos f1, if_pos (nn x), c1, c2, specTurn_eq false l1, Option.bind_some, if_pos f2, if_pos (sumb false l1 l2), if_pos (lenb h10)]
    · refine Ev.step (fun k => ?_) i2
      rw [spec_l04Across.l101, if_pos f1, if_pos (nn x), c1, c2, specTurn_eq false l1, Option.bind_some, if_pos f2, if_pos (sumb false l1 l2), if_pos (lenb h10)]
theorem across_ev {H W : Nat} {g : Nat → Nat → List SL} (c : Int) (hH : H ≤ 4) (hW : W ≤ 8) (hg : ∀ y x, y < 2 * H → x < W → (g y x).length ≤ 64) : Ev (fun k => spec_l04Across.f k (gridL (2 * H) W g) c) (gridL H W (gAcross (c == 84) H g)) := by
  have e1 := Aside0.mk (tdiv2 H (by omega))
  have hlen : ∀ i : Nat, i < 2 * H → (i : Int) < ((gridL (2 * H) W g).length : Int) := fun i hi => by rw [gridL_len]; exact ltc hi
  have hrow : ∀ i : Nat, i < 2 * H → rd_L4 (gridL (2 * H) W g) (i : Int) = (List.range W).map (g i) := fun i hi => gridL_row hi
  have hL : ((gridL (2 * H) W g).length : Int) = ((2 * H : Nat) : Int) := by rw [gridL_len]
  have key : ∀ d y : Nat, y + d = H → Ev (fun k => spec_l04Across.l0 k (gridL (2 * H) W g) c ((2 * H : Nat) : Int) ((List.range y).map fun y => (List.range W).map (gAcross (c == 84) H g y)) (y : Int)) (gridL H W (gAcross (c == 84) H g)) := by
    generalize gridL (2 * H) W g = G at hlen hrow
    intro d
    induction d with
    | zero =>
      intro y hy
      obtain rfl : y = H := by omega
      have hn : ¬ (y : Int) < (y : Int) := Int.lt_irrefl _
      exact Ev.step (f := fun _ => some (gridL y W (gAcross (c == 84) y g))) (fun k => by rw [spec_l04Across.l0, e1.out, if_neg hn]; rfl) (Ev.now _)
    | succ d ih =>
      intro y hy
      have ih' := ih (y + 1) (by omega)
      rw [← row_snoc, ← w64n y (by omega)] at ih'
      have h6 : ((List.range y).map fun y => (List.range W).map (gAcross (c == 84) H g y)).length ≤ 8 := by rw [List.length_map, List.length_range]; omega
      generalize ((List.range y).map fun y => (List.range W).map (gAcross (c == 84) H g y)) = acc at ih' h6 ⊢
      have e2 := Aside0.mk (w2a (W := 2 * H) (x := y) (by omega) (by omega))
      have f1 : (y : Int) < (H : Int) := ltc (by omega)
      have f2 := hlen (2 * H - 1 - y) (by omega)
      have f3 := hlen y (by omega)
      clear ih
      by_cases hc : c = 84
      · have hcb : (c == 84) = true := by rw [hc]; rfl
        rw [hcb] at ih' ⊢
        have e3 := Aside0.mk (w2a (W := H) (x := y) (by omega) (by omega))
        have e4 := Aside0.mk (w2b (W := H) (x := y) (by omega) (by omega))
        have f4 := hlen (H - 1 - y) (by omega)
        have f5 := hlen (H + y) (by omega)
        have r1 := hrow (H - 1 - y) (by omega)
        have r2 := hrow (H + y) (by omega)
        have h := (across_in (G := G) c hW (g (H - 1 - y)) (g (H + y)) (fun x hx => ⟨hg _ x (by omega) hx, hg _ x (by omega) hx⟩) acc h6 y _ _ ih' W 0 (by omega)).1
        refine Ev.step (fun k => ?_) h
        rw [spec_l04Across.l0, e1.out, e2.out, e3.out, e4.out, if_pos f1, if_pos (nn _), if_pos f2, if_pos (nn y), if_pos f3, if_pos hc, if_pos (nn _), if_pos f4, if_pos (nn _), if_pos f5, r1, r2]
        rfl
      · have hcb : (c == 84) = false := beq_false_of_ne hc
        rw [hcb] at ih' ⊢
        have r1 := hrow (2 * H - 1 - y) (by omega)
        have r2 := hrow y (by omega)
        have h := (across_in (G := G) c hW (g (2 * H - 1 - y)) (g y) (fun x hx => ⟨hg _ x (by omega) hx, hg _ x (by omega) hx⟩) acc h6 y _ _ ih' W 0 (by omega)).2
        refine Ev.step (fun k => ?_) h
        rw [spec_l04Across.l0, e1.out, e2.out, if_pos f1, if_pos (nn _), if_pos f2, if_pos (nn y), if_pos f3, if_neg hc, r1, r2]
        rfl
  have hk := key H 0 (by omega)
  unfold spec_l04Across.f
  rw [hL]
  exact hk
def gfold : List UInt8 → Nat → Nat → (Nat → Nat → List SL) → List SL
  | [], _, _, g => g 0 0
  | c :: t, H, W, g => if c = 76 ∨ c = 82 then gfold t H (W / 2) (gAlong (c == 76) (W / 2) g) else gfold t (H / 2) W (gAcross (c == 84) (H / 2) g)
def g0 : Nat → Nat → List SL := fun y x => [⟨(x : Int), (y : Int), false, false⟩]
theorem specStart_ev {H W : Nat} (hH : H ≤ 8) (hW : W ≤ 8) : Ev (fun k => spec_l04Start.f k (W : Int) (H : Int)) (gridL H W g0) := by
  have hin : ∀ (y : Nat) (a5 : List (List (List SL))) (r : List (List (List SL))), a5.length ≤ 8 → Ev (fun k => spec_l04Start.l0 k (W : Int) (H : Int) (a5 ++ [(List.range W).map (g0 y)]) (wrap64 ((y : Int) + 1))) r → ∀ d x : Nat, x + d = W → Ev (fun k => spec_l04Start.l1 k (W : Int) (H : Int) a5 (y : Int) ((List.range x).map (g0 y)) (x : Int)) r := by
    intro y a5 r h5 hr d
    induction d with
    | zero =>
      intro x hx
      obtain rfl : x = W := by omega
      have hn : ¬ (x : Int) < (x : Int) := Int.lt_irrefl _
      exact Ev.step (fun k => by rw [spec_l04Start.l1, if_neg hn, if_pos (lenb h5)]) hr
    | succ d ih =>
      intro x hx
      have ih' := ih (x + 1) (by omega)
      have h8 : ((List.range x).map (g0 y)).length ≤ 8 := by rw [row_len]; omega
      have f1 : (x : Int) < (W : Int) := ltc (by omega)
      rw [← row_snoc, ← w64n x (by omega)] at ih'
      exact Ev.step (fun k => by rw [spec_l04Start.l1, if_pos f1, if_pos (lenb h8)]; rfl) ih'
  have key : ∀ d y : Nat, y + d = H → Ev (fun k => spec_l04Start.l0 k (W : Int) (H : Int) ((List.range y).map fun y => (List.range W).map (g0 y)) (y : Int)) (gridL H W g0) := by
    intro d
    induction d with
    | zero =>
      intro y hy
      obtain rfl : y = H := by omega
      have hn : ¬ (y : Int) < (y : Int) := Int.lt_irrefl _
      exact Ev.step (f := fun _ => some (gridL y W g0)) (fun k => by rw [spec_l04Start.l0, if_neg hn]; rfl) (Ev.now _)
    | succ d ih =>
      intro y hy
      have ih' := ih (y + 1) (by omega)
      rw [← row_snoc, ← w64n y (by omega)] at ih'
      have f1 : (y : Int) < (H : Int) := ltc (by omega)
      have h := hin y _ _ (by rw [List.length_map, List.length_range]; omega) ih' W 0 (by omega)
      exact Ev.step (fun k => by rw [spec_l04Start.l0, if_pos f1]; rfl) h
  exact key H 0 (by omega)
theorem leaves_stepA {s : ByteArray} {pos : Nat} {G G' : List (List (List SL))} {r : List SL} (hp : pos < s.size) (hp2 : pos < 1000) (hb : bt s (pos : Int) = 76 ∨ bt s (pos : Int) = 82) (h1 : Ev (fun k => spec_l04Along.f k G (bt s (pos : Int))) G') (h2 : Ev (fun k => spec_l04Leaves.l0 k s G' ((pos + 1 : Nat) : Int)) r) : Ev (fun k => spec_l04Leaves.l0 k s G (pos : Int)) r := by
  have f1 : (pos : Int) < (s.size : Int) := ltc hp
  refine Ev.step (f := fun k => spec_l04Leaves.j1 k s G (pos : Int) true) (fun k => ?_) ?_
  · rw [spec_l04Leaves.l0, if_pos f1, if_pos (nn _)]
    rcases hb with hb | hb
    · rw [if_pos hb]
    · rw [if_neg (by rw [hb]; decide), hb]; rfl
  · refine Ev.step (fun k => by rw [spec_l04Leaves.j1, if_pos rfl, if_pos (nn _), if_pos f1, w64n pos (by omega)]) ?_
    exact Ev.bind h1 h2
theorem leaves_stepB {s : ByteArray} {pos : Nat} {G G' : List (List (List SL))} {r : List SL} (hp : pos < s.size) (hp2 : pos < 1000) (hb : bt s (pos : Int) = 84 ∨ bt s (pos : Int) = 66) (h1 : Ev (fun k => spec_l04Across.f k G (bt s (pos : Int))) G') (h2 : Ev (fun k => spec_l04Leaves.l0 k s G' ((pos + 1 : Nat) : Int)) r) : Ev (fun k => spec_l04Leaves.l0 k s G (pos : Int)) r := by
  have f1 : (pos : Int) < (s.size : Int) := ltc hp
  refine Ev.step (f := fun k => spec_l04Leaves.j1 k s G (pos : Int) false) (fun k => ?_) ?_
  · rw [spec_l04Leaves.l0, if_pos f1, if_pos (nn _)]
    rcases hb with hb | hb
    · rw [if_neg (by rw [hb]; decide), hb]; rfl
    · rw [if_neg (by rw [hb]; decide), hb]; rfl
  · refine Ev.step (fun k => by rw [spec_l04Leaves.j1, if_neg (by simp), if_pos (nn _), if_pos f1, w64n pos (by omega)]) ?_
    exact Ev.bind h1 h2
theorem p2le {i n : Nat} (h : i ≤ n) : 2 ^ i ≤ 2 ^ n := Nat.pow_le_pow_right (by omega) h
def okSch (a b : Int) (s : ByteArray) : Prop := ∃ i j : Nat, i ≤ 3 ∧ j ≤ 3 ∧ a = ((2 ^ i : Nat) : Int) ∧ b = ((2 ^ j : Nat) : Int) ∧ (∀ x ∈ s.data.toList, ([76, 82, 84, 66] : List UInt8).contains x = true) ∧ lrc s.data.toList = i ∧ s.data.toList.length = i + j
def sumN : Nat → (Nat → Nat) → Nat
  | 0, _ => 0
  | n + 1, f => sumN n f + f n
theorem sumN_congr {n : Nat} {f g : Nat → Nat} (h : ∀ i, i < n → f i = g i) : sumN n f = sumN n g := by
  induction n with
  | zero => rfl
  | succ n ih => rw [sumN, sumN, ih (fun i hi => h i (by omega)), h n (by omega)]
theorem sumN_plus (m n : Nat) (f : Nat → Nat) : sumN (m + n) f = sumN m f + sumN n (fun i => f (m + i)) := by
  induction n with
  | zero => rfl
  | succ n ih => rw [← Nat.add_assoc, sumN, ih, sumN]; omega
theorem sumN_rev (n : Nat) (f : Nat → Nat) : sumN n f = sumN n (fun i => f (n - 1 - i)) := by
  induction n generalizing f with
  | zero => rfl
  | succ n ih =>
    rw [sumN, ih f, Nat.add_comm n 1, sumN_plus 1 n]
    show _ = (0 + f (1 + n - 1 - 0)) + _
    rw [show 1 + n - 1 - 0 = n by omega, Nat.zero_add, Nat.add_comm]
    congr 1
    exact sumN_congr (fun i hi => by rw [show 1 + n - 1 - (1 + i) = n - 1 - i by omega])
theorem sumN_add (n : Nat) (f g : Nat → Nat) : sumN n (fun i => f i + g i) = sumN n f + sumN n g := by
  induction n with
  | zero => rfl
  | succ n ih => rw [sumN, sumN, sumN, ih]; omega
theorem sumN_fold (b : Bool) (n : Nat) (f : Nat → Nat) : sumN (2 * n) f = sumN n (fun i => f (ovr b n i) + f (und b n i)) := by
  rw [sumN_add, Nat.two_mul, sumN_plus]
  cases b
  · rw [show sumN n (fun i => f (und false n i)) = sumN n f from rfl, sumN_rev n (fun i => f (n + i)), Nat.add_comm]
    congr 1
    exact sumN_congr (fun i hi => by show f (n + (n - 1 - i)) = f (2 * n - 1 - i); rw [show n + (n - 1 - i) = 2 * n - 1 - i by omega])
  · rw [show sumN n (fun i => f (und true n i)) = sumN n (fun i => f (n + i)) from rfl, sumN_rev n f]
    rfl
theorem turn_count {P : SL → Bool} (hP : ∀ a x, P (spec_l04Turn.togg a x) = P x) (a : Bool) (l : List SL) : (turnL a l).countP P = l.countP P := by
  unfold turnL
  rw [List.countP_map, List.countP_reverse]
  congr 1
  funext x
  exact hP a x
def gsum (P : SL → Bool) (H W : Nat) (g : Nat → Nat → List SL) : Nat := sumN H (fun y => sumN W (fun x => (g y x).countP P))
theorem gsum_along {P : SL → Bool} (hP : ∀ a x, P (spec_l04Turn.togg a x) = P x) (b : Bool) (H W : Nat) (g : Nat → Nat → List SL) : gsum P H W (gAlong b W g) = gsum P H (2 * W) g := by
  unfold gsum
  refine sumN_congr (fun y _ => ?_)
  rw [sumN_fold b]
  refine sumN_congr (fun x _ => ?_)
  unfold gAlong
  rw [List.countP_append, turn_count hP]
theorem gsum_across {P : SL → Bool} (hP : ∀ a x, P (spec_l04Turn.togg a x) = P x) (b : Bool) (H W : Nat) (g : Nat → Nat → List SL) : gsum P H W (gAcross b H g) = gsum P (2 * H) W g := by
  unfold gsum
  rw [sumN_fold b]
  refine sumN_congr (fun y _ => ?_)
  rw [← sumN_add]
  refine sumN_congr (fun x _ => ?_)
  unfold gAcross
  rw [List.countP_append, turn_count hP]
theorem gfold_count {P : SL → Bool} (hP : ∀ a x, P (spec_l04Turn.togg a x) = P x) : ∀ (t : List UInt8) (i j : Nat) (g : Nat → Nat → List SL), lrc t = i → t.length = i + j → (gfold t (2 ^ j) (2 ^ i) g).countP P = gsum P (2 ^ j) (2 ^ i) g
  | [], i, j, g, h1, h2 => by
    obtain rfl : i = 0 := by rw [← h1]; rfl
    obtain rfl : j = 0 := by simpa using h2.symm
    show (g 0 0).countP P = 0 + (0 + (g 0 0).countP P)
    omega
  | c :: t, i, j, g, h1, h2 => by
    rw [lrc_cons] at h1
    rw [List.length_cons] at h2
    have hle := lrc_le t
    rw [gfold]
    by_cases hc : c = 76 ∨ c = 82
    · rw [if_pos hc] at h1
      obtain ⟨i, rfl⟩ : ∃ q, i = q + 1 := ⟨i - 1, by omega⟩
      rw [if_pos hc, Nat.pow_succ 2 i, Nat.mul_comm (2 ^ i) 2, Nat.mul_div_cancel_left _ (by omega : 0 < 2), gfold_count hP t i j _ (by omega) (by omega), gsum_along hP]
    · rw [if_neg hc] at h1
      obtain ⟨j, rfl⟩ : ∃ q, j = q + 1 := ⟨j - 1, by omega⟩
      rw [if_neg hc, Nat.pow_succ 2 j, Nat.mul_comm (2 ^ j) 2, Nat.mul_div_cancel_left _ (by omega : 0 < 2), gfold_count hP t i j _ (by omega) (by omega), gsum_across hP]
def atL (x y : Int) (v : SL) : Bool := if v.f0 = x then v.f1 == y else false
theorem atL_togg (x y : Int) (a : Bool) (v : SL) : atL x y (spec_l04Turn.togg a v) = atL x y v := by cases a <;> rfl
theorem sumN_one (n a : Nat) (h : a < n) (c : Nat) : sumN n (fun i => if i = a then c else 0) = c := by
  have hz : ∀ m, m ≤ a → sumN m (fun i => if i = a then c else 0) = 0 := by
    intro m
    induction m with
    | zero => intro _; rfl
    | succ m ih => intro hm; rw [sumN, ih (by omega), if_neg (by omega)]
  induction n with
  | zero => omega
  | succ n ih =>
    rw [sumN]
    by_cases he : n = a
    · rw [if_pos he, hz n (by omega), Nat.zero_add]
    · rw [if_neg he, ih (by omega), Nat.add_zero]
theorem start_count (H W x y : Nat) (hx : x < W) (hy : y < H) : gsum (atL (x : Int) (y : Int)) H W g0 = 1 := by
  unfold gsum
  rw [← sumN_one H y hy 1]
  refine sumN_congr (fun j _ => ?_)
  by_cases hj : j = y
  · subst hj
    rw [if_pos rfl, ← sumN_one W x hx 1]
    refine sumN_congr (fun i _ => ?_)
    unfold g0 atL
    by_cases hi : i = x
    · subst hi; simp
    · rw [if_neg hi]
      have : ¬ ((i : Int) = (x : Int)) := by omega
      simp [this]
  · rw [if_neg hj]
    rw [show sumN W (fun i => (g0 j i).countP (atL (x : Int) (y : Int))) = sumN W (fun _ => 0) from sumN_congr (fun i _ => by
      unfold g0 atL
      have : ¬ ((j : Int) = (y : Int)) := by omega
      simp [this])]
    have hz : ∀ m, sumN m (fun _ => 0) = 0 := by
      intro m
      induction m with
      | zero => rfl
      | succ m ih => rw [sumN, ih]
    exact hz W
theorem fold_count {s : List UInt8} {i j x y : Nat} (hl : lrc s = i) (hn : s.length = i + j) (hx : x < 2 ^ i) (hy : y < 2 ^ j) : (gfold s (2 ^ j) (2 ^ i) g0).countP (atL (x : Int) (y : Int)) = 1 := by
  rw [gfold_count (atL_togg _ _) s i j g0 hl hn, start_count _ _ x y hx hy]
def outL (W H : Nat) (v : SL) : Bool := !decide (0 ≤ v.f0 ∧ v.f0 < (W : Int) ∧ 0 ≤ v.f1 ∧ v.f1 < (H : Int))
theorem outL_togg (W H : Nat) (a : Bool) (v : SL) : outL W H (spec_l04Turn.togg a v) = outL W H v := by cases a <;> rfl
theorem sumN_zero (m : Nat) : sumN m (fun _ => 0) = 0 := by
  induction m with
  | zero => rfl
  | succ m ih => rw [sumN, ih]
theorem fold_in {s : List UInt8} {i j : Nat} (hl : lrc s = i) (hn : s.length = i + j) : ∀ v ∈ gfold s (2 ^ j) (2 ^ i) g0, 0 ≤ v.f0 ∧ v.f0 < ((2 ^ i : Nat) : Int) ∧ 0 ≤ v.f1 ∧ v.f1 < ((2 ^ j : Nat) : Int) := by
  have h := gfold_count (outL_togg (2 ^ i) (2 ^ j)) s i j g0 hl hn
  have hz : gsum (outL (2 ^ i) (2 ^ j)) (2 ^ j) (2 ^ i) g0 = 0 := by
    unfold gsum
    rw [← sumN_zero (2 ^ j)]
    refine sumN_congr (fun y hy => ?_)
    rw [← sumN_zero (2 ^ i)]
    refine sumN_congr (fun x hx => ?_)
    have hp : outL (2 ^ i) (2 ^ j) ⟨(x : Int), (y : Int), false, false⟩ = false := by
      unfold outL
      rw [decide_eq_true ⟨nn x, ltc hx, nn y, ltc hy⟩]
      rfl
    show ([⟨(x : Int), (y : Int), false, false⟩] : List SL).countP (outL (2 ^ i) (2 ^ j)) = 0
    rw [List.countP_cons, hp]
    rfl
  rw [hz, List.countP_eq_zero] at h
  intro v hv
  have := h v hv
  unfold outL at this
  simpa using this
theorem leaves_loopS (s : ByteArray) (hs : s.size ≤ 6) : ∀ (d pos i j C : Nat) (g : Nat → Nat → List SL), pos + d = s.size → (∀ x ∈ s.data.toList.drop pos, ([76, 82, 84, 66] : List UInt8).contains x = true) → lrc (s.data.toList.drop pos) = i → d = i + j → i ≤ 3 → j ≤ 3 → (∀ y x, y < 2 ^ j → x < 2 ^ i → (g y x).length = C) → C * 2 ^ d ≤ 64 →
    Ev (fun k => spec_l04Leaves.l0 k s (gridL (2 ^ j) (2 ^ i) g) (pos : Int)) (gfold (s.data.toList.drop pos) (2 ^ j) (2 ^ i) g) ∧ (gfold (s.data.toList.drop pos) (2 ^ j) (2 ^ i) g).length = C * 2 ^ d := by
  have hz : s.size = s.data.toList.length := by simp
  intro d
  induction d with
  | zero =>
    intro pos i j C g hp hall hl hd hi hj hC h64
    obtain rfl : i = 0 := by omega
    obtain rfl : j = 0 := by omega
    rw [List.drop_of_length_le (by omega), gfold]
    have n1 : ¬ (pos : Int) < (s.size : Int) := nltc (by omega)
    have a1 : (0 : Int) < ((gridL (2 ^ 0) (2 ^ 0) g).length : Int) := by rw [gridL_len]; decide
    have a2 : rd_L4 (gridL (2 ^ 0) (2 ^ 0) g) 0 = [g 0 0] := rfl
    have a3 : rd_L3 [g 0 0] 0 = g 0 0 := rfl
    have a4 : (0 : Int) < (([g 0 0] : List (List SL)).length : Int) := by show (0 : Int) < 1; decide
    refine ⟨Ev.step (f := fun _ => some (g 0 0)) (fun k => ?_) (Ev.now _), by rw [hC 0 0 (by decide) (by decide)]; omega⟩
    rw [spec_l04Leaves.l0, if_neg n1, if_pos a1, a2, if_pos a4, a3]
  | succ d ih =>
    intro pos i j C g hp hall hl hd hi hj hC h64
    have hil : pos < s.data.toList.length := by omega
    have hdr := List.drop_eq_getElem_cons hil
    have hb := bt_list s pos (by omega)
    rw [hdr] at hall hl ⊢
    have hc := hall _ List.mem_cons_self
    have hall' := fun x hx => hall x (List.mem_cons_of_mem _ hx)
    rw [lrc_cons] at hl
    generalize s.data.toList[pos] = c at hb hc hl ⊢
    have hCle : C ≤ 32 := by
      have h1 : 1 ≤ 2 ^ d := Nat.one_le_two_pow
      rw [Nat.pow_succ] at h64
      have h2 : C * 2 ≤ C * (2 ^ d * 2) := Nat.mul_le_mul_left _ (by omega)
      omega
    have h64' : (C + C) * 2 ^ d ≤ 64 := by rw [Nat.pow_succ] at h64; rw [Nat.add_mul, ← Nat.two_mul, ← Nat.mul_assoc, Nat.mul_comm 2 C, Nat.mul_assoc, Nat.mul_comm 2]; exact h64
    have hlen' : (C + C) * 2 ^ d = C * 2 ^ (d + 1) := by rw [Nat.pow_succ, Nat.add_mul, ← Nat.two_mul, ← Nat.mul_assoc, Nat.mul_comm 2 C, Nat.mul_assoc, Nat.mul_comm 2]
    by_cases h1 : c = 76 ∨ c = 82
    · rw [if_pos h1] at hl
      obtain ⟨i, rfl⟩ : ∃ q, i = q + 1 := ⟨i - 1, by omega⟩
      have hW : 2 ^ (i + 1) = 2 * 2 ^ i := by rw [Nat.pow_succ, Nat.mul_comm]
      have hW4 : 2 ^ i ≤ 4 := p2le (n := 2) (by omega)
      have hH8 : 2 ^ j ≤ 8 := p2le (n := 3) hj
      have hH0 : 0 < 2 ^ j := Nat.pow_pos (by omega)
      rw [gfold, if_pos h1, hW, Nat.mul_div_cancel_left _ (by omega : 0 < 2)]
      have hg : ∀ y x, y < 2 ^ j → x < 2 * 2 ^ i → (g y x).length ≤ 64 := fun y x hy hx => by rw [hC y x hy (by rw [hW]; exact hx)]; omega
      have hC' : ∀ y x, y < 2 ^ j → x < 2 ^ i → (gAlong (c == 76) (2 ^ i) g y x).length = C + C := fun y x hy hx => by
        unfold gAlong
        rw [List.length_append, turnL_len, hC y _ hy (by rw [hW]; unfold ovr; split <;> omega), hC y _ hy (by rw [hW]; unfold und; split <;> omega)]
      obtain ⟨j1, j3⟩ := ih (pos + 1) i j (C + C) (gAlong (c == 76) (2 ^ i) g) (by omega) hall' (by omega) (by omega) (by omega) hj hC' h64'
      have a1 := along_ev (bt s (pos : Int)) hH8 hW4 hg
      rcases h1 with rfl | rfl
      · have hb' : bt s (pos : Int) = 76 := hb
        refine ⟨leaves_stepA (by omega) (by omega) (.inl hb') a1 ?_, j3.trans hlen'⟩
        rw [hb']; exact j1
      · have hb' : bt s (pos : Int) = 82 := hb
        refine ⟨leaves_stepA (by omega) (by omega) (.inr hb') a1 ?_, j3.trans hlen'⟩
        rw [hb']; exact j1
    · rw [if_neg h1] at hl
      have hdj : lrc (s.data.toList.drop (pos + 1)) ≤ d := by
        have := lrc_le (s.data.toList.drop (pos + 1))
        rw [List.length_drop] at this
        omega
      have h2 : c = 84 ∨ c = 66 := by
        simp only [List.contains_cons, List.contains_nil, Bool.or_false, Bool.or_eq_true, beq_iff_eq] at hc
        rcases hc with e | e | e | e
        · exact (h1 (.inl e)).elim
        · exact (h1 (.inr e)).elim
        · exact .inl e
        · exact .inr e
      obtain ⟨j, rfl⟩ : ∃ q, j = q + 1 := ⟨j - 1, by omega⟩
      have hH : 2 ^ (j + 1) = 2 * 2 ^ j := by rw [Nat.pow_succ, Nat.mul_comm]
      have hH4 : 2 ^ j ≤ 4 := p2le (n := 2) (by omega)
      have hW8 : 2 ^ i ≤ 8 := p2le (n := 3) hi
      have hH0 : 0 < 2 ^ j := Nat.pow_pos (by omega)
      rw [gfold, if_neg h1, hH, Nat.mul_div_cancel_left _ (by omega : 0 < 2)]
      have hg : ∀ y x, y < 2 * 2 ^ j → x < 2 ^ i → (g y x).length ≤ 64 := fun y x hy hx => by rw [hC y x (by rw [hH]; exact hy) hx]; omega
      have hC' : ∀ y x, y < 2 ^ j → x < 2 ^ i → (gAcross (c == 84) (2 ^ j) g y x).length = C + C := fun y x hy hx => by
        unfold gAcross
        rw [List.length_append, turnL_len, hC _ x (by rw [hH]; unfold ovr; split <;> omega) hx, hC _ x (by rw [hH]; unfold und; split <;> omega) hx]
      obtain ⟨j1, j3⟩ := ih (pos + 1) i j (C + C) (gAcross (c == 84) (2 ^ j) g) (by omega) hall' (by omega) (by omega) hi (by omega) hC' h64'
      have a1 := across_ev (bt s (pos : Int)) hH4 hW8 hg
      rcases h2 with rfl | rfl
      · have hb' : bt s (pos : Int) = 84 := hb
        refine ⟨leaves_stepB (by omega) (by omega) (.inl hb') a1 ?_, j3.trans hlen'⟩
        rw [hb']; exact j1
      · have hb' : bt s (pos : Int) = 66 := hb
        refine ⟨leaves_stepB (by omega) (by omega) (.inr hb') a1 ?_, j3.trans hlen'⟩
        rw [hb']; exact j1
theorem leaves_spec {a b : Int} {s : ByteArray} (h : okSch a b s) : ∃ (i j : Nat), i ≤ 3 ∧ j ≤ 3 ∧ a = ((2 ^ i : Nat) : Int) ∧ b = ((2 ^ j : Nat) : Int) ∧ lrc s.data.toList = i ∧ s.data.toList.length = i + j ∧ Ev (fun k => spec_l04Leaves.f k a b s) (gfold s.data.toList (2 ^ j) (2 ^ i) g0) ∧ (gfold s.data.toList (2 ^ j) (2 ^ i) g0).length = 2 ^ (i + j) := by
  obtain ⟨i, j, hi, hj, ha, hb, hall, hl, hn⟩ := h
  have hz : s.size = s.data.toList.length := by simp
  refine ⟨i, j, hi, hj, ha, hb, hl, hn, ?_⟩
  subst ha hb
  have hW8 : 2 ^ i ≤ 8 := p2le (n := 3) hi
  have hH8 : 2 ^ j ≤ 8 := p2le (n := 3) hj
  obtain ⟨h1, h3⟩ := leaves_loopS s (by omega) s.size 0 i j 1 g0 (by omega) hall hl (by omega) hi hj (fun _ _ _ _ => rfl) (by rw [Nat.one_mul]; exact p2le (n := 6) (by omega))
  rw [List.drop_zero] at h1 h3
  refine ⟨?_, ?_⟩
  · unfold spec_l04Leaves.f
    exact Ev.bind (specStart_ev hH8 hW8) h1
  · rw [h3, hz, hn, Nat.one_mul]
theorem rdT_get {l : List SL} {i : Nat} (h : i < l.length) : rd_T35 l (i : Int) = l[i] := by
  unfold rd_T35
  rw [Int.toNat_natCast, List.getD_eq_getElem?_getD, List.getElem?_eq_getElem h]
  rfl
/-- One leaf's pages, laid into the form's three lists. -/
def dn5 (v : SL) : Bool := v.f2 != v.f3
def fStep (a : Nat) (i : Nat) (v : SL) (x : List Int × List Int × List Int) : List Int × List Int × List Int :=
  (x.1.set (v.f1.toNat * a + v.f0.toNat) (if dn5 v = true then 2 * (i : Int) + 2 else 2 * (i : Int) + 1), x.2.1.set (v.f1.toNat * a + a - 1 - v.f0.toNat) (if dn5 v = true then 2 * (i : Int) + 1 else 2 * (i : Int) + 2), if v.f3 = true then x.2.2.set (v.f1.toNat * a + v.f0.toNat) 1 else x.2.2)
def fAll (a : Nat) : List SL → Nat → List Int × List Int × List Int → List Int × List Int × List Int
  | [], _, x => x
  | v :: t, i, x => fAll a t (i + 1) (fStep a i v x)
theorem fStep_len (a i : Nat) (v : SL) (x : List Int × List Int × List Int) : (fStep a i v x).1.length = x.1.length ∧ (fStep a i v x).2.1.length = x.2.1.length ∧ (fStep a i v x).2.2.length = x.2.2.length := by
  unfold fStep
  refine ⟨by simp, by simp, ?_⟩
  by_cases h : v.f3 = true
  · rw [if_pos h]; simp
  · rw [if_neg h]
theorem fAll_len (a : Nat) : ∀ (l : List SL) (i : Nat) (x : List Int × List Int × List Int), (fAll a l i x).1.length = x.1.length ∧ (fAll a l i x).2.1.length = x.2.1.length ∧ (fAll a l i x).2.2.length = x.2.2.length
  | [], _, _ => ⟨rfl, rfl, rfl⟩
  | v :: t, i, x => by
    have h1 := fAll_len a t (i + 1) (fStep a i v x)
    have h2 := fStep_len a i v x
    exact ⟨h1.1.trans h2.1, h1.2.1.trans h2.2.1, h1.2.2.trans h2.2.2⟩
theorem cellN {A C : Nat} {v : SL} (hA : A ≤ 8) (hC : C ≤ 8) (h0 : 0 ≤ v.f0) (h1 : v.f0 < (A : Int)) (h2 : 0 ≤ v.f1) (h3 : v.f1 < (C : Int)) :
    wrap64 (wrap64 (v.f1 * (A : Int)) + v.f0) = ((v.f1.toNat * A + v.f0.toNat : Nat) : Int) ∧ wrap64 (wrap64 (wrap64 (wrap64 (v.f1 * (A : Int)) + (A : Int)) - 1) - v.f0) = ((v.f1.toNat * A + A - 1 - v.f0.toNat : Nat) : Int) ∧ v.f1.toNat * A + v.f0.toNat < A * C ∧ v.f1.toNat * A + A - 1 - v.f0.toNat < A * C := by
  obtain ⟨f0, f1, f2, f3⟩ := v
  simp only at h0 h1 h2 h3 ⊢
  obtain ⟨x, rfl⟩ := Int.eq_ofNat_of_zero_le h0
  obtain ⟨y, rfl⟩ := Int.eq_ofNat_of_zero_le h2
  have hx : x < A := Int.ofNat_lt.1 h1
  have hy : y < C := Int.ofNat_lt.1 h3
  have e3 : (y : Int) * (A : Int) = ((y * A : Nat) : Int) := (Int.natCast_mul _ _).symm
  have hyA : (y + 1) * A ≤ C * A := Nat.mul_le_mul_right A hy
  rw [Nat.mul_comm C A, Nat.succ_mul] at hyA
  have h64 : A * C ≤ 64 := Nat.mul_le_mul hA hC
  simp only [Int.toNat_natCast]
  rw [e3]
  generalize y * A = q at hyA
  generalize A * C = n at hyA h64
  refine ⟨?_, ?_, by omega, by omega⟩
  · rw [w64 (x := (q : Int)) (by omega) (by omega), w64 (by omega) (by omega)]; omega
  · rw [w64 (x := (q : Int)) (by omega) (by omega), w64 (x := (q : Int) + (A : Int)) (by omega) (by omega), w64 (x := (q : Int) + (A : Int) - 1) (by omega) (by omega), w64 (by omega) (by omega)]; omega
theorem zero_list (n : Nat) (hn : n ≤ 64) : 0 ≤ (n : Int) ∧ ((n : Int)).toNat ≤ 35184372088832 ∧ List.replicate ((n : Int)).toNat (0 : Int) = List.replicate n 0 := ⟨by omega, by omega, by rw [Int.toNat_natCast]⟩
theorem page_ok (i : Nat) (h : i ≤ 64) : wrap64 (wrap64 (2 * (i : Int)) + 2) = 2 * (i : Int) + 2 ∧ wrap64 (wrap64 (2 * (i : Int)) + 1) = 2 * (i : Int) + 1 := by
  constructor
  · rw [w64 (x := 2 * (i : Int)) (by omega) (by omega), w64 (by omega) (by omega)]
  · rw [w64 (x := 2 * (i : Int)) (by omega) (by omega), w64 (by omega) (by omega)]
theorem fAll_ev (A C : Nat) (hA : A ≤ 8) (hC : C ≤ 8) (l : List SL) (hl : l.length ≤ 64) (hin : ∀ v ∈ l, 0 ≤ v.f0 ∧ v.f0 < (A : Int) ∧ 0 ≤ v.f1 ∧ v.f1 < (C : Int)) : ∀ (d i : Nat), i + d = l.length → ∀ x : List Int × List Int × List Int, x.1.length = A * C → x.2.1.length = A * C → x.2.2.length = A * C → Ev (fun k => spec_l05Form.l0 k (A : Int) l (i : Int) (A : Int) (C : Int) x.1 x.2.1 x.2.2) ((A : Int), (C : Int), (fAll A (l.drop i) i x).1, (fAll A (l.drop i) i x).2.1, (fAll A (l.drop i) i x).2.2) := by
  intro d
  induction d with
  | zero =>
    intro i hi x _ _ _
    rw [List.drop_of_length_le (by omega), fAll]
    exact Ev.step (f := fun _ => some ((A : Int), (C : Int), x.1, x.2.1, x.2.2)) (fun k => by rw [spec_l05Form.l0, if_neg (by omega)]) (Ev.now _)
  | succ d ih =>
    intro i hi x h1 h2 h3
    have hil : i < l.length := by omega
    rw [List.drop_eq_getElem_cons hil, fAll]
    have hg := rdT_get hil
    obtain ⟨v0, v1, v2, v3⟩ := hin _ (List.getElem_mem hil)
    generalize l[i] = v at hg v0 v1 v2 v3
    have hs := fStep_len A i v x
    have st := ih (i + 1) (by omega) (fStep A i v x) (hs.1.trans h1) (hs.2.1.trans h2) (hs.2.2.trans h3)
    have g0 : (i : Int) < (l.length : Int) := by omega
    have g1 : 0 ≤ (i : Int) := by omega
    have hi64 : i ≤ 64 := by omega
    have hw := w64n i (Nat.lt_of_le_of_lt hi64 (by decide))
    obtain ⟨u2, u1⟩ := page_ok i hi64
    obtain ⟨c1, c2, c3, c4⟩ := cellN hA hC v0 v1 v2 v3
    have f1 : ((v.f1.toNat * A + v.f0.toNat : Nat) : Int) < (x.1.length : Int) := by rw [h1]; exact Int.ofNat_lt.2 c3
    have f2 : ((v.f1.toNat * A + A - 1 - v.f0.toNat : Nat) : Int) < (x.2.1.length : Int) := by rw [h2]; exact Int.ofNat_lt.2 c4
    have f3 : ((v.f1.toNat * A + v.f0.toNat : Nat) : Int) < (x.2.2.length : Int) := by rw [h3]; exact Int.ofNat_lt.2 c3
    have z1 : 0 ≤ ((v.f1.toNat * A + v.f0.toNat : Nat) : Int) := Int.natCast_nonneg _
    have z2 : 0 ≤ ((v.f1.toNat * A + A - 1 - v.f0.toNat : Nat) : Int) := Int.natCast_nonneg _
    have J : ∀ (U D : Int) (r : Int × Int × List Int × List Int × List Int), Ev (fun k => spec_l05Form.l0 k (A : Int) l ((i + 1 : Nat) : Int) (A : Int) (C : Int) (x.1.set (v.f1.toNat * A + v.f0.toNat) U) (x.2.1.set (v.f1.toNat * A + A - 1 - v.f0.toNat) D) (if v.f3 = true then x.2.2.set (v.f1.toNat * A + v.f0.toNat) 1 else x.2.2)) r → Ev (fun k => spec_l05Form.j1 k (A : Int) l (i : Int) U D (A : Int) (C : Int) x.1 x.2.1 x.2.2 v.f0 v.f1 v.f2 v.f3) r := by
      intro U D r hr
      refine Ev.step (fun k => ?_) hr
      rw [spec_l05Form.j1, c1, c2, if_pos z1, if_pos f1, Int.toNat_natCast, Option.bind_some, if_pos z2, if_pos f2, Int.toNat_natCast, Option.bind_some, hw]
      by_cases h : v.f3 = true
      · rw [if_pos h, if_pos h, if_pos f3]
      · rw [if_neg h, if_neg h]
    by_cases hd : dn5 v = true
    · have e := J (2 * (i : Int) + 2) (2 * (i : Int) + 1) ((A : Int), (C : Int), (fAll A (l.drop (i + 1)) (i + 1) (fStep A i v x)).1, (fAll A (l.drop (i + 1)) (i + 1) (fStep A i v x)).2.1, (fAll A (l.drop (i + 1)) (i + 1) (fStep A i v x)).2.2) (by
        have st' := st
        unfold fStep at st' ⊢
        rw [if_pos hd, if_pos hd] at st' ⊢
        exact st')
      refine Ev.step (fun k => ?_) e
      rw [spec_l05Form.l0, if_pos g0, if_pos g1, hg, spec_l04Down.f, Option.bind_some, if_pos (show (v.f2 != v.f3) = true from hd), u2, u1]
    · have e := J (2 * (i : Int) + 1) (2 * (i : Int) + 2) ((A : Int), (C : Int), (fAll A (l.drop (i + 1)) (i + 1) (fStep A i v x)).1, (fAll A (l.drop (i + 1)) (i + 1) (fStep A i v x)).2.1, (fAll A (l.drop (i + 1)) (i + 1) (fStep A i v x)).2.2) (by
        have st' := st
        unfold fStep at st' ⊢
        rw [if_neg hd, if_neg hd] at st' ⊢
        exact st')
      refine Ev.step (fun k => ?_) e
      rw [spec_l05Form.l0, if_pos g0, if_pos g1, hg, spec_l04Down.f, Option.bind_some, if_neg (show ¬ (v.f2 != v.f3) = true from hd), u2, u1]
def z3_ (n : Nat) : List Int × List Int × List Int := (List.replicate n 0, List.replicate n 0, List.replicate n 0)
theorem specForm {a b : Int} {s : ByteArray} (h : okSch a b s) : ∃ (A C : Nat) (l : List SL), A ≤ 8 ∧ C ≤ 8 ∧ 0 < A ∧ 0 < C ∧ a = (A : Int) ∧ b = (C : Int) ∧ l.length = A * C ∧ (∀ v ∈ l, 0 ≤ v.f0 ∧ v.f0 < (A : Int) ∧ 0 ≤ v.f1 ∧ v.f1 < (C : Int)) ∧ Ev (fun k => spec_l04Leaves.f k a b s) l ∧ Ev (fun k => spec_l05Form.f k a b s) (a, b, (fAll A l 0 (z3_ (A * C))).1, (fAll A l 0 (z3_ (A * C))).2.1, (fAll A l 0 (z3_ (A * C))).2.2) := by
  obtain ⟨i, j, hi, hj, ha, hb, hl, hn, h1, h2⟩ := leaves_spec h
  have hin := fold_in (i := i) (j := j) hl hn
  rw [Nat.pow_add] at h2
  have hA : 2 ^ i ≤ 8 := p2le (n := 3) hi
  have hC : 2 ^ j ≤ 8 := p2le (n := 3) hj
  have hA0 : 0 < 2 ^ i := Nat.pow_pos (by omega)
  have hC0 : 0 < 2 ^ j := Nat.pow_pos (by omega)
  refine ⟨2 ^ i, 2 ^ j, _, hA, hC, hA0, hC0, ha, hb, h2, hin, h1, ?_⟩
  generalize 2 ^ i = A at *
  generalize 2 ^ j = C at *
  generalize gfold s.data.toList C A g0 = l at *
  have h64 : A * C ≤ 64 := Nat.mul_le_mul hA hC
  have hab : wrap64 (a * b) = ((A * C : Nat) : Int) := by
    have e : a * b = ((A * C : Nat) : Int) := by rw [ha, hb]; exact (Int.natCast_mul _ _).symm
    rw [e]
    generalize A * C = n at h64
    exact w64 (by omega) (by omega)
  have st := fAll_ev A C hA hC l (by omega) hin l.length 0 (by omega) (z3_ (A * C)) (by simp [z3_]) (by simp [z3_]) (by simp [z3_])
  rw [List.drop_zero] at st
  obtain ⟨n0, n1, n2⟩ := zero_list (A * C) h64
  unfold spec_l05Form.f
  rw [hab]
  refine Ev_ite_t n0 (Ev_ite_t n1 (Ev.bind h1 ?_))
  rw [n2]
  subst ha hb
  exact st
theorem divmod_at {A y x : Nat} (h : x < A) : (y * A + x) / A = y ∧ (y * A + x) % A = x := by
  constructor
  · rw [Nat.mul_comm, Nat.mul_add_div (by omega), Nat.div_eq_of_lt h, Nat.add_zero]
  · rw [Nat.mul_comm, Nat.mul_add_mod, Nat.mod_eq_of_lt h]
abbrev cF (A : Nat) (v : SL) : Nat := v.f1.toNat * A + v.f0.toNat
abbrev cB (A : Nat) (v : SL) : Nat := v.f1.toNat * A + A - 1 - v.f0.toNat
def inS (A C : Nat) (v : SL) : Prop := 0 ≤ v.f0 ∧ v.f0 < (A : Int) ∧ 0 ≤ v.f1 ∧ v.f1 < (C : Int)
theorem cell_inj {A C : Nat} {v w : SL} (hA : 0 < A) (hv : inS A C v) (hw : inS A C w) : (cF A v = cF A w → v.f0 = w.f0 ∧ v.f1 = w.f1) ∧ (cB A v = cB A w → v.f0 = w.f0 ∧ v.f1 = w.f1) := by
  obtain ⟨a0, a1, a2, a3⟩ := hv
  obtain ⟨b0, b1, b2, b3⟩ := hw
  have h1 := divmod_at (A := A) (y := v.f1.toNat) (x := v.f0.toNat) (by omega)
  have h2 := divmod_at (A := A) (y := w.f1.toNat) (x := w.f0.toNat) (by omega)
  have h3 := divmod_at (A := A) (y := v.f1.toNat) (x := A - 1 - v.f0.toNat) (by omega)
  have h4 := divmod_at (A := A) (y := w.f1.toNat) (x := A - 1 - w.f0.toNat) (by omega)
  constructor
  · intro e
    have e' : v.f1.toNat * A + v.f0.toNat = w.f1.toNat * A + w.f0.toNat := e
    rw [e'] at h1
    have q1 := h1.1.symm.trans h2.1
    have q2 := h1.2.symm.trans h2.2
    exact ⟨by omega, by omega⟩
  · intro e
    have e' : v.f1.toNat * A + (A - 1 - v.f0.toNat) = w.f1.toNat * A + (A - 1 - w.f0.toNat) := by
      have e2 : v.f1.toNat * A + A - 1 - v.f0.toNat = w.f1.toNat * A + A - 1 - w.f0.toNat := e
      omega
    rw [e'] at h3
    have q1 := h3.1.symm.trans h4.1
    have q2 := h3.2.symm.trans h4.2
    exact ⟨by omega, by omega⟩
/-- No two leaves lie in one place. -/
def Apart (l : List SL) : Prop := l.Pairwise (fun v w => ¬ (v.f0 = w.f0 ∧ v.f1 = w.f1))
theorem apart_of_count {A C : Nat} {l : List SL} (hin : ∀ v ∈ l, inS A C v) (h : ∀ x y : Int, 0 ≤ x → x < (A : Int) → 0 ≤ y → y < (C : Int) → l.countP (atL x y) = 1) : Apart l := by
  refine List.pairwise_iff_getElem.2 (fun i j hi hj hij e => ?_)
  obtain ⟨a0, a1, a2, a3⟩ := hin _ (List.getElem_mem hi)
  have hc := h _ _ a0 a1 a2 a3
  have p1 : atL l[i].f0 l[i].f1 l[i] = true := by unfold atL; rw [if_pos rfl]; simp
  have p2 : atL l[i].f0 l[i].f1 l[j] = true := by unfold atL; rw [if_pos e.1.symm, e.2]; simp
  have hs : ∀ p : SL → Bool, l.countP p = (l.take j).countP p + (l.drop j).countP p := fun p => by
    conv => lhs; rw [← List.take_append_drop j l, List.countP_append]
  have hs := hs (atL l[i].f0 l[i].f1)
  have c1 : 0 < (l.take j).countP (atL l[i].f0 l[i].f1) := by
    refine List.countP_pos_iff.2 ⟨l[i], ?_, p1⟩
    have : (l.take j)[i]'(by rw [List.length_take]; omega) = l[i] := List.getElem_take
    rw [← this]
    exact List.getElem_mem _
  have c2 : 0 < (l.drop j).countP (atL l[i].f0 l[i].f1) := by
    refine List.countP_pos_iff.2 ⟨l[j], ?_, p2⟩
    rw [List.drop_eq_getElem_cons hj]
    exact List.mem_cons_self
  omega
theorem set_get {l : List Int} {i c : Nat} {v : Int} : (l.set i v)[c]? = if i = c ∧ c < l.length then some v else l[c]? := by
  rw [List.getElem?_set]
  by_cases h : i = c
  · subst h
    by_cases h2 : i < l.length
    · rw [if_pos rfl, if_pos h2, if_pos ⟨rfl, h2⟩]
    · rw [if_pos rfl, if_neg h2, if_neg (fun z => h2 z.2), List.getElem?_eq_none (by omega)]
  · rw [if_neg h, if_neg (fun z => h z.1)]
theorem zeros_get {n c : Nat} (h : c < n) : (List.replicate n (0 : Int))[c]? = some 0 := by simp [h]
theorem toInt_eq (f : Bool) : impl_toInt.f f = some (if f = true then 1 else 0) := by cases f <;> rfl
/-- One leaf's pages as the program lays them: the head is stored whether or not it is turned. -/
def fStepI (a : Nat) (i : Nat) (v : SL) (x : List Int × List Int × List Int) : List Int × List Int × List Int :=
  (x.1.set (v.f1.toNat * a + v.f0.toNat) (if dn5 v = true then 2 * (i : Int) + 2 else 2 * (i : Int) + 1), x.2.1.set (v.f1.toNat * a + a - 1 - v.f0.toNat) (if dn5 v = true then 2 * (i : Int) + 1 else 2 * (i : Int) + 2), x.2.2.set (v.f1.toNat * a + v.f0.toNat) (if v.f3 = true then 1 else 0))
def fAllI (a : Nat) : List SL → Nat → List Int × List Int × List Int → List Int × List Int × List Int
  | [], _, x => x
  | v :: t, i, x => fAllI a t (i + 1) (fStepI a i v x)
theorem set_same {l : List Int} {c : Nat} {v : Int} (h : l[c]? = some v) : l.set c v = l := by
  apply List.ext_getElem?
  intro j
  rw [set_get]
  by_cases e : c = j ∧ j < l.length
  · rw [if_pos e, ← e.1, h]
  · rw [if_neg e]
theorem fAllI_eq {A C : Nat} (hA : 0 < A) : ∀ (l : List SL) (i : Nat) (x : List Int × List Int × List Int), (∀ v ∈ l, inS A C v) → Apart l → (∀ v ∈ l, x.2.2[cF A v]? = some 0) → fAllI A l i x = fAll A l i x
  | [], _, _, _, _, _ => rfl
  | v :: t, i, x, hin, hap, hx => by
    obtain ⟨ap1, ap2⟩ := List.pairwise_cons.1 hap
    have hv := hin v List.mem_cons_self
    have x3 := hx v List.mem_cons_self
    have e : fStepI A i v x = fStep A i v x := by
      unfold fStepI fStep
      by_cases h3 : v.f3 = true
      · rw [if_pos h3, if_pos h3]
      · rw [if_neg h3, if_neg h3, set_same x3]
    rw [fAllI, fAll, e]
    refine fAllI_eq hA t (i + 1) (fStep A i v x) (fun w hw => hin w (List.mem_cons_of_mem _ hw)) ap2 (fun w hw => ?_)
    have y3 := hx w (List.mem_cons_of_mem _ hw)
    show (if v.f3 = true then x.2.2.set (cF A v) 1 else x.2.2)[cF A w]? = some 0
    by_cases h3 : v.f3 = true
    · rw [if_pos h3, set_get, if_neg (fun z => ?_)]
      · exact y3
      · have ci := cell_inj hA (hin w (List.mem_cons_of_mem _ hw)) hv
        have := ci.1 z.1.symm
        exact ap1 w hw ⟨this.1.symm, this.2.symm⟩
    · rw [if_neg h3]
      exact y3
theorem fStepI_len (a i : Nat) (v : SL) (x : List Int × List Int × List Int) : (fStepI a i v x).1.length = x.1.length ∧ (fStepI a i v x).2.1.length = x.2.1.length ∧ (fStepI a i v x).2.2.length = x.2.2.length := by
  unfold fStepI
  exact ⟨by simp, by simp, by simp⟩
theorem fAllI_ev (A C : Nat) (hA : A ≤ 8) (hC : C ≤ 8) (l : List SL) (hl : l.length ≤ 64) (hin : ∀ v ∈ l, 0 ≤ v.f0 ∧ v.f0 < (A : Int) ∧ 0 ≤ v.f1 ∧ v.f1 < (C : Int)) : ∀ (d i : Nat), i + d = l.length → ∀ x : List Int × List Int × List Int, x.1.length = A * C → x.2.1.length = A * C → x.2.2.length = A * C → Ev (fun k => impl_ImposeSheet.l0 k (A : Int) l (l.length : Int) (i : Int) (A : Int) (C : Int) x.1 x.2.1 x.2.2) ((A : Int), (C : Int), (fAllI A (l.drop i) i x).1, (fAllI A (l.drop i) i x).2.1, (fAllI A (l.drop i) i x).2.2, 0) := by
  intro d
  induction d with
  | zero =>
    intro i hi x _ _ _
    rw [List.drop_of_length_le (by omega), fAllI]
    exact Ev.step (f := fun _ => some ((A : Int), (C : Int), x.1, x.2.1, x.2.2, 0)) (fun k => by rw [impl_ImposeSheet.l0, if_neg (by omega)]) (Ev.now _)
  | succ d ih =>
    intro i hi x h1 h2 h3
    have hil : i < l.length := by omega
    rw [List.drop_eq_getElem_cons hil, fAllI]
    have hg := rdT_get hil
    obtain ⟨v0, v1, v2, v3⟩ := hin _ (List.getElem_mem hil)
    generalize l[i] = v at hg v0 v1 v2 v3
    have hs := fStepI_len A i v x
    have st := ih (i + 1) (by omega) (fStepI A i v x) (hs.1.trans h1) (hs.2.1.trans h2) (hs.2.2.trans h3)
    have g0 : (i : Int) < (l.length : Int) := by omega
    have g1 : 0 ≤ (i : Int) := by omega
    have hi64 : i ≤ 64 := by omega
    have hw := w64n i (Nat.lt_of_le_of_lt hi64 (by decide))
    obtain ⟨u2, u1⟩ := page_ok i hi64
    obtain ⟨c1, c2, c3, c4⟩ := cellN hA hC v0 v1 v2 v3
    have ht := toInt_eq v.f3
    have f1 : ((v.f1.toNat * A + v.f0.toNat : Nat) : Int) < (x.1.length : Int) := by rw [h1]; exact Int.ofNat_lt.2 c3
    have f2 : ((v.f1.toNat * A + A - 1 - v.f0.toNat : Nat) : Int) < (x.2.1.length : Int) := by rw [h2]; exact Int.ofNat_lt.2 c4
    have f3 : ((v.f1.toNat * A + v.f0.toNat : Nat) : Int) < (x.2.2.length : Int) := by rw [h3]; exact Int.ofNat_lt.2 c3
    have z1 : 0 ≤ ((v.f1.toNat * A + v.f0.toNat : Nat) : Int) := Int.natCast_nonneg _
    have z2 : 0 ≤ ((v.f1.toNat * A + A - 1 - v.f0.toNat : Nat) : Int) := Int.natCast_nonneg _
    have J : ∀ (U D : Int) (r : Int × Int × List Int × List Int × List Int × Int), Ev (fun k => impl_ImposeSheet.l0 k (A : Int) l (l.length : Int) ((i + 1 : Nat) : Int) (A : Int) (C : Int) (x.1.set (v.f1.toNat * A + v.f0.toNat) U) (x.2.1.set (v.f1.toNat * A + A - 1 - v.f0.toNat) D) (x.2.2.set (v.f1.toNat * A + v.f0.toNat) (if v.f3 = true then 1 else 0))) r → Ev (fun k => impl_ImposeSheet.j1 k (A : Int) U D l (l.length : Int) (i : Int) (A : Int) (C : Int) x.1 x.2.1 x.2.2 v.f0 v.f1 v.f2 v.f3) r := by
      intro U D r hr
      refine Ev.step (fun k => ?_) hr
      rw [impl_ImposeSheet.j1, impl_frontPlace.f, c1, Option.bind_some, if_pos z1, if_pos f1, impl_backPlace.f, c2, Option.bind_some, if_pos z2, if_pos f2, Option.bind_some, ht, Option.bind_some, if_pos z1, if_pos f3, Int.toNat_natCast, Int.toNat_natCast, hw]
    by_cases hd : dn5 v = true
    · have e := J (2 * (i : Int) + 2) (2 * (i : Int) + 1) ((A : Int), (C : Int), (fAllI A (l.drop (i + 1)) (i + 1) (fStepI A i v x)).1, (fAllI A (l.drop (i + 1)) (i + 1) (fStepI A i v x)).2.1, (fAllI A (l.drop (i + 1)) (i + 1) (fStepI A i v x)).2.2, 0) (by
        have st' := st
        unfold fStepI at st' ⊢
        rw [if_pos hd, if_pos hd] at st' ⊢
        exact st')
      refine Ev.step (fun k => ?_) e
      rw [impl_ImposeSheet.l0, if_pos g0, if_pos g1, if_pos g0, hg, impl_downLeaf.f, Option.bind_some, if_pos (show (v.f2 != v.f3) = true from hd), u2, u1]
    · have e := J (2 * (i : Int) + 1) (2 * (i : Int) + 2) ((A : Int), (C : Int), (fAllI A (l.drop (i + 1)) (i + 1) (fStepI A i v x)).1, (fAllI A (l.drop (i + 1)) (i + 1) (fStepI A i v x)).2.1, (fAllI A (l.drop (i + 1)) (i + 1) (fStepI A i v x)).2.2, 0) (by
        have st' := st
        unfold fStepI at st' ⊢
        rw [if_neg hd, if_neg hd] at st' ⊢
        exact st')
      refine Ev.step (fun k => ?_) e
      rw [impl_ImposeSheet.l0, if_pos g0, if_pos g1, if_pos g0, hg, impl_downLeaf.f, Option.bind_some, if_neg (show ¬ (v.f2 != v.f3) = true from hd), u2, u1]
theorem implFlip_eq {l : List SL} (a : Bool) (h : l.length ≤ 64) : impl_flipped.f l a = some (turnL (!a) l) := by
  unfold impl_flipped.f
  rw [if_pos (by omega)]
  have e : impl_flipped.togg a = spec_l04Turn.togg (!a) := by funext x; cases a <;> rfl
  rw [e]; rfl
theorem concat_ev {b c : List SL} (hb : b.length ≤ 64) (hc : c.length ≤ 64) : Ev (fun k => impl_Leaf_36.f k [b, c]) (b ++ c) := by
  have r0 : rd_L3 [b, c] 0 = b := rfl
  have r1 : rd_L3 [b, c] 1 = c := rfl
  have l2 : (([b, c] : List (List SL)).length : Int) = 2 := rfl
  have g0 : (0 : Int) < (([b, c] : List (List SL)).length : Int) := by rw [l2]; omega
  have g1 : (1 : Int) < (([b, c] : List (List SL)).length : Int) := by rw [l2]; omega
  have w1 : wrap64 (0 + 1) = 1 := by rw [w64 (by omega) (by omega)]; rfl
  have w2 : wrap64 (1 + 1) = 2 := by rw [w64 (by omega) (by omega)]; rfl
  have s1 : wrap64 (0 + (b.length : Int)) = (b.length : Int) := by rw [w64 (by omega) (by omega)]; omega
  have s2 : wrap64 ((b.length : Int) + (c.length : Int)) = ((b.length + c.length : Nat) : Int) := by rw [w64 (by omega) (by omega)]; omega
  have hg : impl_Leaf_49.f ([] : List SL) ((b.length + c.length : Nat) : Int) = some [] := by
    unfold impl_Leaf_49.f
    rw [if_pos rfl, if_pos (nn _), if_pos (by omega)]
  have a1 : ([] : List SL).length + b.length < 5864062014805 := by rw [List.length_nil]; omega
  have a2 : b.length + c.length < 5864062014805 := by omega
  generalize ([b, c] : List (List SL)) = G at r0 r1 l2 g0 g1
  refine Ev.step (f := fun k => impl_Leaf_36.l0 k G (b.length : Int) G 2 1) (fun k => ?_) ?_
  · show impl_Leaf_36.l0 (k + 1) G 0 G (G.length : Int) 0 = _
    rw [l2, impl_Leaf_36.l0, r0, s1, w1, if_pos (by decide), if_pos (by decide), if_pos g0, if_neg (by omega)]
  refine Ev.step (f := fun k => impl_Leaf_36.l0 k G ((b.length + c.length : Nat) : Int) G 2 2) (fun k => ?_) ?_
  · rw [impl_Leaf_36.l0, r1, s2, w2, if_pos (by decide), if_pos (by decide), if_pos g1, if_neg (by omega)]
  refine Ev.step (f := fun k => impl_Leaf_36.l1 k [] G 2 0) (fun k => ?_) ?_
  · rw [impl_Leaf_36.l0, if_neg (by decide), hg, l2]; rfl
  refine Ev.step (f := fun k => impl_Leaf_36.l1 k b G 2 1) (fun k => ?_) ?_
  · rw [impl_Leaf_36.l1, r0, w1, if_pos (by decide), if_pos (by decide), if_pos g0, if_pos a1, List.nil_append]
  refine Ev.step (f := fun k => impl_Leaf_36.l1 k (b ++ c) G 2 2) (fun k => ?_) ?_
  · rw [impl_Leaf_36.l1, r1, w2, if_pos (by decide), if_pos (by decide), if_pos g1, if_pos a2]
  exact Ev.step (f := fun _ => some (b ++ c)) (fun k => by rw [impl_Leaf_36.l1, if_neg (by decide)]) (Ev.now _)
theorem hvrow_ev {c : Nat → Nat → Option (List SL)} {f : Nat → List SL} : ∀ (n x : Nat), (∀ i, x ≤ i → i < x + n → Ev (fun k => c k i) (f i)) → Ev (fun k => hv_row (c k) n x ((List.range x).map f)) ((List.range (x + n)).map f)
  | 0, x, _ => Ev.now _
  | n + 1, x, h => by
    refine Ev.bind (h x (by omega) (by omega)) ?_
    have := hvrow_ev (c := c) (f := f) n (x + 1) (fun i h1 h2 => h i (by omega) (by omega))
    rw [row_snoc, show x + (n + 1) = x + 1 + n by omega]
    exact this
theorem hvrows_ev {c : Nat → Nat → Option (List (List SL))} {f : Nat → List (List SL)} : ∀ (n x : Nat), (∀ i, x ≤ i → i < x + n → Ev (fun k => c k i) (f i)) → Ev (fun k => hv_rows (c k) n x ((List.range x).map f)) ((List.range (x + n)).map f)
  | 0, x, _ => Ev.now _
  | n + 1, x, h => by
    refine Ev.bind (h x (by omega) (by omega)) ?_
    have := hvrows_ev (c := c) (f := f) n (x + 1) (fun i h1 h2 => h i (by omega) (by omega))
    rw [row_snoc, show x + (n + 1) = x + 1 + n by omega]
    exact this
theorem hvat_eq {H W : Nat} {g : Nat → Nat → List SL} (a : Bool) (h w x y : Nat) (s o : Bool) {Y X : Nat} (hY : (if a = true then hv_pos h y s o else y) = Y) (hX : (if a = true then x else hv_pos w x s o) = X) (h1 : Y < H) (h2 : X < W) : hv_at (gridL H W g) a h w x y s o = some (g Y X) := by
  unfold hv_at
  rw [hY, hX, if_pos (by rw [gridL_len]; exact h1), gridL_getD h1, if_pos (by rw [row_len]; exact h2), row_getD h2]
theorem halved_along {H W : Nat} {g : Nat → Nat → List SL} (f : Bool) (hH : 0 < H ∧ H ≤ 8) (hW : W ≤ 4) (hg : ∀ y x, y < H → x < 2 * W → (g y x).length ≤ 64) : Ev (fun k => impl_halved.f k (gridL H (2 * W) g) false f) (gridL H W (gAlong f W g)) := by
  have hl : ((gridL H (2 * W) g).getD 0 []).length = 2 * W := by rw [gridL_getD hH.1, row_len]
  have hc : 0 < (gridL H (2 * W) g).length ∧ (gridL H (2 * W) g).length ≤ 1000 ∧ ((gridL H (2 * W) g).getD 0 []).length ≤ 1000 := by rw [gridL_len, hl]; omega
  unfold impl_halved.f
  refine Ev_ite_t hc ?_
  rw [hl, gridL_len, show hvH false H = H from rfl, show hvW false (2 * W) = W from by unfold hvW; simp]
  have key := hvrows_ev (c := fun k y => hv_row (fun x => hv_cell k (gridL H (2 * W) g) false f H W y x) W 0 []) (f := fun y => (List.range W).map (gAlong f W g y)) H 0 (fun y _ hy => by
    have hr := hvrow_ev (c := fun k x => hv_cell k (gridL H (2 * W) g) false f H W y x) (f := gAlong f W g y) W 0 (fun x _ hx => by
      have b1 := hg y (ovr f W x) (by omega) (by unfold ovr; split <;> omega)
      have b2 := hg y (und f W x) (by omega) (by unfold und; split <;> omega)
      unfold hv_cell
      rw [hvat_eq (H := H) (W := 2 * W) (g := g) false H W x y (!f) true (Y := y) (X := ovr f W x) rfl (by cases f <;> simp [hv_pos, ovr] <;> omega) (by omega) (by unfold ovr; split <;> omega),
        hvat_eq (H := H) (W := 2 * W) (g := g) false H W x y f false (Y := y) (X := und f W x) rfl (by cases f <;> simp [hv_pos, und] <;> omega) (by omega) (by unfold und; split <;> omega)]
      simp only [Option.bind_some]
      rw [implFlip_eq false b1]
      simp only [Option.bind_some]
      exact concat_ev (by rw [turnL_len]; exact b1) b2)
    rw [Nat.zero_add] at hr
    exact hr)
  rw [Nat.zero_add] at key
  exact key
theorem halved_across {H W : Nat} {g : Nat → Nat → List SL} (f : Bool) (hH : 0 < H ∧ H ≤ 4) (hW : W ≤ 8) (hg : ∀ y x, y < 2 * H → x < W → (g y x).length ≤ 64) : Ev (fun k => impl_halved.f k (gridL (2 * H) W g) true f) (gridL H W (gAcross f H g)) := by
  have hl : ((gridL (2 * H) W g).getD 0 []).length = W := by rw [gridL_getD (by omega), row_len]
  have hc : 0 < (gridL (2 * H) W g).length ∧ (gridL (2 * H) W g).length ≤ 1000 ∧ ((gridL (2 * H) W g).getD 0 []).length ≤ 1000 := by rw [gridL_len, hl]; omega
  unfold impl_halved.f
  refine Ev_ite_t hc ?_
  rw [hl, gridL_len, show hvW true W = W from rfl, show hvH true (2 * H) = H from by unfold hvH; simp]
  have key := hvrows_ev (c := fun k y => hv_row (fun x => hv_cell k (gridL (2 * H) W g) true f H W y x) W 0 []) (f := fun y => (List.range W).map (gAcross f H g y)) H 0 (fun y _ hy => by
    have hr := hvrow_ev (c := fun k x => hv_cell k (gridL (2 * H) W g) true f H W y x) (f := gAcross f H g y) W 0 (fun x _ hx => by
      have b1 := hg (ovr f H y) x (by unfold ovr; split <;> omega) (by omega)
      have b2 := hg (und f H y) x (by unfold und; split <;> omega) (by omega)
      unfold hv_cell
      rw [hvat_eq (H := 2 * H) (W := W) (g := g) true H W x y (!f) true (Y := ovr f H y) (X := x) (by cases f <;> simp [hv_pos, ovr] <;> omega) rfl (by unfold ovr; split <;> omega) (by omega),
        hvat_eq (H := 2 * H) (W := W) (g := g) true H W x y f false (Y := und f H y) (X := x) (by cases f <;> simp [hv_pos, und] <;> omega) rfl (by unfold und; split <;> omega) (by omega)]
      simp only [Option.bind_some]
      rw [implFlip_eq true b1]
      simp only [Option.bind_some]
      exact concat_ev (by rw [turnL_len]; exact b1) b2)
    rw [Nat.zero_add] at hr
    exact hr)
  rw [Nat.zero_add] at key
  exact key
-- the sheet before any fold
theorem implStart_ev {H W : Nat} (s : ByteArray) (hH : H ≤ 8) (hW : W ≤ 8) (r : List SL) (hr : Ev (fun k => impl_foldSheet.l2 k s (gridL H W g0) (s.size : Int) 0) r) : Ev (fun k => impl_foldSheet.f k (W : Int) (H : Int) s) r := by
  have hin : ∀ (y : Nat) (a5 : List (List (List SL))) (r : List SL), a5.length ≤ 8 → Ev (fun k => impl_foldSheet.l0 k (W : Int) s (a5 ++ [(List.range W).map (g0 y)]) (H : Int) (wrap64 ((y : Int) + 1))) r → ∀ d x : Nat, x + d = W → Ev (fun k => impl_foldSheet.l1 k (W : Int) s a5 (y : Int) ((List.range x).map (g0 y)) (H : Int) (y : Int) (W : Int) (x : Int)) r := by
    intro y a5 r h5 hr d
    induction d with
    | zero =>
      intro x hx
      obtain rfl : x = W := by omega
      have hn : ¬ (x : Int) < (x : Int) := Int.lt_irrefl _
      exact Ev.step (fun k => by rw [impl_foldSheet.l1, if_neg hn, if_pos (lenb h5)]) hr
    | succ d ih =>
      intro x hx
      have ih' := ih (x + 1) (by omega)
      have h8 : ((List.range x).map (g0 y)).length ≤ 8 := by rw [row_len]; omega
      have f1 : (x : Int) < (W : Int) := ltc (by omega)
      rw [← row_snoc, ← w64n x (by omega)] at ih'
      exact Ev.step (fun k => by rw [impl_foldSheet.l1, if_pos f1, if_pos (lenb h8)]; rfl) ih'
  have key : ∀ d y : Nat, y + d = H → Ev (fun k => impl_foldSheet.l0 k (W : Int) s ((List.range y).map fun y => (List.range W).map (g0 y)) (H : Int) (y : Int)) r := by
    intro d
    induction d with
    | zero =>
      intro y hy
      obtain rfl : y = H := by omega
      have hn : ¬ (y : Int) < (y : Int) := Int.lt_irrefl _
      exact Ev.step (fun k => by rw [impl_foldSheet.l0, if_neg hn]; rfl) hr
    | succ d ih =>
      intro y hy
      have ih' := ih (y + 1) (by omega)
      rw [← row_snoc, ← w64n y (by omega)] at ih'
      have f1 : (y : Int) < (H : Int) := ltc (by omega)
      have h := hin y _ _ (by rw [List.length_map, List.length_range]; omega) ih' W 0 (by omega)
      exact Ev.step (fun k => by rw [impl_foldSheet.l0, if_pos f1]; rfl) h
  exact key H 0 (by omega)
theorem ifold_step {s : ByteArray} {pos : Nat} {G G' : List (List (List SL))} {r : List SL} (a f : Bool) (hp : pos < s.size) (hp2 : pos < 1000) (hb : (bt s (pos : Int) = 84 ∧ a = true ∧ f = true) ∨ (bt s (pos : Int) = 76 ∧ a = false ∧ f = true) ∨ (bt s (pos : Int) = 82 ∧ a = false ∧ f = false) ∨ (bt s (pos : Int) = 66 ∧ a = true ∧ f = false)) (h1 : Ev (fun k => impl_halved.f k G a f) G') (h2 : Ev (fun k => impl_foldSheet.l2 k s G' (s.size : Int) ((pos + 1 : Nat) : Int)) r) : Ev (fun k => impl_foldSheet.l2 k s G (s.size : Int) (pos : Int)) r := by
  have f1 : (pos : Int) < (s.size : Int) := ltc hp
  have e1 := w64n pos (by omega)
  refine Ev.step (f := fun k => (impl_halved.f k G a f).bind fun t => impl_foldSheet.l2 k s t (s.size : Int) ((pos + 1 : Nat) : Int)) (fun k => ?_) (Ev.bind h1 h2)
  rw [impl_foldSheet.l2, if_pos f1, if_pos (nn _), if_pos f1, e1]
  rcases hb with ⟨hb, rfl, rfl⟩ | ⟨hb, rfl, rfl⟩ | ⟨hb, rfl, rfl⟩ | ⟨hb, rfl, rfl⟩
  · rw [hb, if_pos rfl, if_neg (by decide)]; rfl
  · rw [hb, if_neg (by decide), if_pos rfl]; rfl
  · rw [hb, if_neg (by decide), if_neg (by decide)]; rfl
  · rw [hb, if_neg (by decide), if_neg (by decide)]; rfl
theorem leaves_loop (s : ByteArray) (hs : s.size ≤ 6) : ∀ (d pos i j C : Nat) (g : Nat → Nat → List SL), pos + d = s.size → (∀ x ∈ s.data.toList.drop pos, ([76, 82, 84, 66] : List UInt8).contains x = true) → lrc (s.data.toList.drop pos) = i → d = i + j → i ≤ 3 → j ≤ 3 → (∀ y x, y < 2 ^ j → x < 2 ^ i → (g y x).length = C) → C * 2 ^ d ≤ 64 →
    Ev (fun k => spec_l04Leaves.l0 k s (gridL (2 ^ j) (2 ^ i) g) (pos : Int)) (gfold (s.data.toList.drop pos) (2 ^ j) (2 ^ i) g) ∧ Ev (fun k => impl_foldSheet.l2 k s (gridL (2 ^ j) (2 ^ i) g) (s.size : Int) (pos : Int)) (gfold (s.data.toList.drop pos) (2 ^ j) (2 ^ i) g) ∧ (gfold (s.data.toList.drop pos) (2 ^ j) (2 ^ i) g).length = C * 2 ^ d := by
  have hz : s.size = s.data.toList.length := by simp
  intro d
  induction d with
  | zero =>
    intro pos i j C g hp hall hl hd hi hj hC h64
    obtain rfl : i = 0 := by omega
    obtain rfl : j = 0 := by omega
    rw [List.drop_of_length_le (by omega), gfold]
    have n1 : ¬ (pos : Int) < (s.size : Int) := nltc (by omega)
    have a1 : (0 : Int) < ((gridL (2 ^ 0) (2 ^ 0) g).length : Int) := by rw [gridL_len]; decide
    have a2 : rd_L4 (gridL (2 ^ 0) (2 ^ 0) g) 0 = [g 0 0] := rfl
    have a3 : rd_L3 [g 0 0] 0 = g 0 0 := rfl
    have a4 : (0 : Int) < (([g 0 0] : List (List SL)).length : Int) := by show (0 : Int) < 1; decide
    refine ⟨Ev.step (f := fun _ => some (g 0 0)) (fun k => ?_) (Ev.now _), Ev.step (f := fun _ => some (g 0 0)) (fun k => ?_) (Ev.now _), by rw [hC 0 0 (by decide) (by decide)]; omega⟩
    · rw [spec_l04Leaves.l0, if_neg n1, if_pos a1, a2, if_pos a4, a3]
    · rw [impl_foldSheet.l2, if_neg n1, if_pos a1, a2, if_pos a4, a3]
  | succ d ih =>
    intro pos i j C g hp hall hl hd hi hj hC h64
    have hil : pos < s.data.toList.length := by omega
    have hdr := List.drop_eq_getElem_cons hil
    have hb := bt_list s pos (by omega)
    rw [hdr] at hall hl ⊢
    have hc := hall _ List.mem_cons_self
    have hall' := fun x hx => hall x (List.mem_cons_of_mem _ hx)
    rw [lrc_cons] at hl
    generalize s.data.toList[pos] = c at hb hc hl ⊢
    have hCle : C ≤ 32 := by
      have h1 : 1 ≤ 2 ^ d := Nat.one_le_two_pow
      rw [Nat.pow_succ] at h64
      have h2 : C * 2 ≤ C * (2 ^ d * 2) := Nat.mul_le_mul_left _ (by omega)
      omega
    have h64' : (C + C) * 2 ^ d ≤ 64 := by rw [Nat.pow_succ] at h64; rw [Nat.add_mul, ← Nat.two_mul, ← Nat.mul_assoc, Nat.mul_comm 2 C, Nat.mul_assoc, Nat.mul_comm 2]; exact h64
    have hlen' : (C + C) * 2 ^ d = C * 2 ^ (d + 1) := by rw [Nat.pow_succ, Nat.add_mul, ← Nat.two_mul, ← Nat.mul_assoc, Nat.mul_comm 2 C, Nat.mul_assoc, Nat.mul_comm 2]
    by_cases h1 : c = 76 ∨ c = 82
    · rw [if_pos h1] at hl
      obtain ⟨i, rfl⟩ : ∃ q, i = q + 1 := ⟨i - 1, by omega⟩
      have hW : 2 ^ (i + 1) = 2 * 2 ^ i := by rw [Nat.pow_succ, Nat.mul_comm]
      have hW4 : 2 ^ i ≤ 4 := p2le (n := 2) (by omega)
      have hH8 : 2 ^ j ≤ 8 := p2le (n := 3) hj
      have hH0 : 0 < 2 ^ j := Nat.pow_pos (by omega)
      rw [gfold, if_pos h1, hW, Nat.mul_div_cancel_left _ (by omega : 0 < 2)]
      have hg : ∀ y x, y < 2 ^ j → x < 2 * 2 ^ i → (g y x).length ≤ 64 := fun y x hy hx => by rw [hC y x hy (by rw [hW]; exact hx)]; omega
      have hC' : ∀ y x, y < 2 ^ j → x < 2 ^ i → (gAlong (c == 76) (2 ^ i) g y x).length = C + C := fun y x hy hx => by
        unfold gAlong
        rw [List.length_append, turnL_len, hC y _ hy (by rw [hW]; unfold ovr; split <;> omega), hC y _ hy (by rw [hW]; unfold und; split <;> omega)]
      obtain ⟨j1, j2, j3⟩ := ih (pos + 1) i j (C + C) (gAlong (c == 76) (2 ^ i) g) (by omega) hall' (by omega) (by omega) (by omega) hj hC' h64'
      have a1 := along_ev (bt s (pos : Int)) hH8 hW4 hg
      have a2 := halved_along (c == 76) ⟨hH0, hH8⟩ hW4 hg
      rcases h1 with rfl | rfl
      · have hb' : bt s (pos : Int) = 76 := hb
        refine ⟨leaves_stepA (by omega) (by omega) (.inl hb') a1 ?_, ifold_step false true (by omega) (by omega) (.inr (.inl ⟨hb', rfl, rfl⟩)) a2 j2, j3.trans hlen'⟩
        rw [hb']; exact j1
      · have hb' : bt s (pos : Int) = 82 := hb
        refine ⟨leaves_stepA (by omega) (by omega) (.inr hb') a1 ?_, ifold_step false false (by omega) (by omega) (.inr (.inr (.inl ⟨hb', rfl, rfl⟩))) a2 j2, j3.trans hlen'⟩
        rw [hb']; exact j1
    · rw [if_neg h1] at hl
      have hdj : lrc (s.data.toList.drop (pos + 1)) ≤ d := by
        have := lrc_le (s.data.toList.drop (pos + 1))
        rw [List.length_drop] at this
        omega
      have h2 : c = 84 ∨ c = 66 := by
        simp only [List.contains_cons, List.contains_nil, Bool.or_false, Bool.or_eq_true, beq_iff_eq] at hc
        rcases hc with e | e | e | e
        · exact (h1 (.inl e)).elim
        · exact (h1 (.inr e)).elim
        · exact .inl e
        · exact .inr e
      obtain ⟨j, rfl⟩ : ∃ q, j = q + 1 := ⟨j - 1, by omega⟩
      have hH : 2 ^ (j + 1) = 2 * 2 ^ j := by rw [Nat.pow_succ, Nat.mul_comm]
      have hH4 : 2 ^ j ≤ 4 := p2le (n := 2) (by omega)
      have hW8 : 2 ^ i ≤ 8 := p2le (n := 3) hi
      have hH0 : 0 < 2 ^ j := Nat.pow_pos (by omega)
      rw [gfold, if_neg h1, hH, Nat.mul_div_cancel_left _ (by omega : 0 < 2)]
      have hg : ∀ y x, y < 2 * 2 ^ j → x < 2 ^ i → (g y x).length ≤ 64 := fun y x hy hx => by rw [hC y x (by rw [hH]; exact hy) hx]; omega
      have hC' : ∀ y x, y < 2 ^ j → x < 2 ^ i → (gAcross (c == 84) (2 ^ j) g y x).length = C + C := fun y x hy hx => by
        unfold gAcross
        rw [List.length_append, turnL_len, hC _ x (by rw [hH]; unfold ovr; split <;> omega) hx, hC _ x (by rw [hH]; unfold und; split <;> omega) hx]
      obtain ⟨j1, j2, j3⟩ := ih (pos + 1) i j (C + C) (gAcross (c == 84) (2 ^ j) g) (by omega) hall' (by omega) (by omega) hi (by omega) hC' h64'
      have a1 := across_ev (bt s (pos : Int)) hH4 hW8 hg
      have a2 := halved_across (c == 84) ⟨hH0, hH4⟩ hW8 hg
      rcases h2 with rfl | rfl
      · have hb' : bt s (pos : Int) = 84 := hb
        refine ⟨leaves_stepB (by omega) (by omega) (.inl hb') a1 ?_, ifold_step true true (by omega) (by omega) (.inl ⟨hb', rfl, rfl⟩) a2 j2, j3.trans hlen'⟩
        rw [hb']; exact j1
      · have hb' : bt s (pos : Int) = 66 := hb
        refine ⟨leaves_stepB (by omega) (by omega) (.inr hb') a1 ?_, ifold_step true false (by omega) (by omega) (.inr (.inr (.inr ⟨hb', rfl, rfl⟩))) a2 j2, j3.trans hlen'⟩
        rw [hb']; exact j1
theorem leaves_two {a b : Int} {s : ByteArray} {i j : Nat} (hi : i ≤ 3) (hj : j ≤ 3) (ha : a = ((2 ^ i : Nat) : Int)) (hb : b = ((2 ^ j : Nat) : Int)) (hall : ∀ x ∈ s.data.toList, ([76, 82, 84, 66] : List UInt8).contains x = true) (hl : lrc s.data.toList = i) (hn : s.data.toList.length = i + j) :
    Ev (fun k => spec_l04Leaves.f k a b s) (gfold s.data.toList (2 ^ j) (2 ^ i) g0) ∧ Ev (fun k => impl_foldSheet.f k a b s) (gfold s.data.toList (2 ^ j) (2 ^ i) g0) ∧ (gfold s.data.toList (2 ^ j) (2 ^ i) g0).length = 2 ^ (i + j) := by
  have hz : s.size = s.data.toList.length := by simp
  subst ha hb
  have hW8 : 2 ^ i ≤ 8 := p2le (n := 3) hi
  have hH8 : 2 ^ j ≤ 8 := p2le (n := 3) hj
  obtain ⟨h1, h2, h3⟩ := leaves_loop s (by omega) s.size 0 i j 1 g0 (by omega) hall hl (by omega) hi hj (fun _ _ _ _ => rfl) (by rw [Nat.one_mul]; exact p2le (n := 6) (by omega))
  rw [List.drop_zero] at h1 h2 h3
  refine ⟨?_, implStart_ev s hH8 hW8 _ h2, ?_⟩
  · unfold spec_l04Leaves.f
    exact Ev.bind (specStart_ev hH8 hW8) h1
  · rw [h3, hz, hn, Nat.one_mul]
theorem side_cases (a : Int) : (∃ j : Nat, j ≤ 3 ∧ a = ((2 ^ j : Nat) : Int) ∧ spec_l04Power.f a = some ((j : Int), true) ∧ impl_isSide.f a = some true ∧ Ev (fun k => impl_halvings.f k a) (j : Int)) ∨ (spec_l04Power.f a = some (0, false) ∧ impl_isSide.f a = some false) := by
  by_cases h1 : a = 1
  · subst h1; exact .inl ⟨0, by decide, by decide, by decide +kernel, by decide +kernel, Ev.of (impl_halvings.mono _) (k := 10) (by decide +kernel)⟩
  by_cases h2 : a = 2
  · subst h2; exact .inl ⟨1, by decide, by decide, by decide +kernel, by decide +kernel, Ev.of (impl_halvings.mono _) (k := 10) (by decide +kernel)⟩
  by_cases h4 : a = 4
  · subst h4; exact .inl ⟨2, by decide, by decide, by decide +kernel, by decide +kernel, Ev.of (impl_halvings.mono _) (k := 10) (by decide +kernel)⟩
  by_cases h8 : a = 8
  · subst h8; exact .inl ⟨3, by decide, by decide, by decide +kernel, by decide +kernel, Ev.of (impl_halvings.mono _) (k := 10) (by decide +kernel)⟩
  · refine .inr ⟨?_, ?_⟩
    · unfold spec_l04Power.f
      rw [if_neg h1, if_neg h2, if_neg h4, if_neg h8]
    · unfold impl_isSide.f
      rw [if_neg h1, if_neg h2, if_neg h4, show (a == 8) = false from beq_false_of_ne h8]
theorem trim_nil (cs : List UInt8) : ∀ l : List UInt8, Go.Lib.trimS l cs = [] ↔ ∀ b ∈ l, cs.contains b = true := by
  have dw : ∀ l : List UInt8, l.dropWhile (cs.contains ·) = [] ↔ ∀ b ∈ l, cs.contains b = true := by
    intro l
    induction l with
    | nil => simp
    | cons a t ih =>
      rw [List.dropWhile_cons]
      by_cases h : cs.contains a = true
      · rw [if_pos h, ih]
        exact ⟨fun g b hb => by rcases List.mem_cons.1 hb with rfl | hb; exact h; exact g b hb, fun g b hb => g b (List.mem_cons_of_mem _ hb)⟩
      · rw [if_neg h]
        exact ⟨fun g => (List.cons_ne_nil _ _ g).elim, fun g => absurd (g a List.mem_cons_self) h⟩
  intro l
  unfold Go.Lib.trimS Go.Lib.trimLeftS
  rw [dw]
  unfold Go.Lib.trimRightS
  constructor
  · intro g
    have e : l.reverse.dropWhile (cs.contains ·) = [] := by
      cases hd : l.reverse.dropWhile (cs.contains ·) with
      | nil => rfl
      | cons a t =>
        have h1 := List.head?_dropWhile_not (cs.contains ·) l.reverse
        rw [hd] at h1 g
        have h2 := g a (by simp)
        simp only [List.head?_cons] at h1
        rw [h2] at h1
        cases h1
    intro b hb
    exact (dw l.reverse).1 e b (List.mem_reverse.2 hb)
  · intro g
    have e := (dw l.reverse).2 (fun b hb => g b (List.mem_reverse.1 hb))
    rw [e]
    intro b hb
    simp at hb
theorem isScheme_two (a b : Int) (s : ByteArray) (hs : s.size ≤ 1048576) : ∃ v : Bool, Ev (fun k => spec_IsScheme.f k a b s) v ∧ Ev (fun k => impl_IsScheme.f k a b s) v ∧ (v = true → ∃ i j : Nat, i ≤ 3 ∧ j ≤ 3 ∧ a = ((2 ^ i : Nat) : Int) ∧ b = ((2 ^ j : Nat) : Int) ∧ (∀ x ∈ s.data.toList, ([76, 82, 84, 66] : List UInt8).contains x = true) ∧ lrc s.data.toList = i ∧ s.data.toList.length = i + j) := by
  have hz : s.size = s.data.toList.length := by simp
  have hle := lrc_le s.data.toList
  have spec : ∀ (i j : Nat) (one two : Bool), i ≤ 3 → j ≤ 3 → spec_l04Power.f a = some ((i : Int), one) → spec_l04Power.f b = some ((j : Int), two) → Ev (fun k => spec_IsScheme.f k a b s) (sL one two s.data.toList (i : Int) (j : Int)) := by
    intro i j one two hi hj p1 p2
    unfold spec_IsScheme.f
    rw [p1, p2]
    refine Ev.bind (Ev.now _) (Ev.bind (Ev.now _) ?_)
    have := specIsScheme_loop s one two hs s.size 0 (by omega) (i : Int) (j : Int) (by omega) (by omega) (by omega) (by omega)
    rw [List.drop_zero] at this
    exact Ev.congr (fun k => rfl) this
  have no : ∀ (i j : Nat) (one two : Bool), (one = false ∨ two = false) → sL one two s.data.toList (i : Int) (j : Int) = false := by
    intro i j one two h
    rw [Bool.eq_false_iff]
    intro z
    obtain ⟨_, z1, z2, _⟩ := (sL_iff _ _ _ _ _).1 z
    rcases h with h | h
    · rw [h] at z1; cases z1
    · rw [h] at z2; cases z2
  have bad : impl_isSheet.f a b = some false → Ev (fun k => impl_IsScheme.f k a b s) false := by
    intro h
    unfold impl_IsScheme.f
    rw [h]
    exact Ev.bind (Ev.now _) (Ev_ite_f (by simp) (Ev.now _))
  rcases side_cases a with ⟨i, i1, i2, i3, i4, i5⟩ | ⟨i3, i4⟩
  · rcases side_cases b with ⟨j, j1, j2, j3, j4, j5⟩ | ⟨j3, j4⟩
    · have hsh : impl_isSheet.f a b = some true := by unfold impl_isSheet.f; rw [i4, j4]; rfl
      refine ⟨_, spec i j true true i1 j1 i3 j3, ?_, ?_⟩
      · unfold impl_IsScheme.f
        rw [hsh]
        refine Ev.bind (Ev.now _) (Ev_ite_t rfl (Ev_ite_t hs ?_))
        have hiff := sL_iff true true s.data.toList (i : Int) (j : Int)
        have hlr : lrcount s = lrc s.data.toList := rfl
        by_cases ht : Go.Lib.trimS s.data.toList [76, 82, 84, 66] = []
        · refine Ev_ite_t ht (Ev.bind i5 ?_)
          have hall := (trim_nil _ _).1 ht
          by_cases hc : (lrcount s : Int) = (i : Int)
          · refine Ev_ite_t hc (Ev.bind j5 ?_)
            have e : sL true true s.data.toList (i : Int) (j : Int) = decide ((s.size : Int) - (lrcount s : Int) = (j : Int)) := by
              rw [Bool.eq_iff_iff, hiff, decide_eq_true_iff]
              constructor
              · rintro ⟨_, _, _, g1, g2⟩
                rw [hz, hlr, g2]
              · intro g
                exact ⟨hall, rfl, rfl, by rw [← hlr, hc], by rw [← hlr, ← hz, g]⟩
            rw [e]
            exact Ev.now _
          · rw [show sL true true s.data.toList (i : Int) (j : Int) = false from by
              rw [Bool.eq_false_iff]; intro z
              obtain ⟨_, _, _, z4, _⟩ := hiff.1 z
              exact hc (by rw [hlr, z4])]
            exact Ev_ite_f hc (Ev.now _)
        · rw [show sL true true s.data.toList (i : Int) (j : Int) = false from by
            rw [Bool.eq_false_iff]; intro z
            exact ht ((trim_nil _ _).2 (hiff.1 z).1)]
          exact Ev_ite_f ht (Ev.now _)
      · intro z
        obtain ⟨z1, _, _, z4, z5⟩ := (sL_iff _ _ _ _ _).1 z
        exact ⟨i, j, i1, j1, i2, j2, z1, by omega, by omega⟩
    · have hsh : impl_isSheet.f a b = some false := by unfold impl_isSheet.f; rw [i4, j4]; rfl
      have e := spec i 0 true false i1 (by omega) i3 j3
      rw [no i 0 true false (.inr rfl)] at e
      exact ⟨false, e, bad hsh, fun z => by cases z⟩
  · have hsh : impl_isSheet.f a b = some false := by unfold impl_isSheet.f; rw [i4]; rfl
    rcases side_cases b with ⟨j, j1, j2, j3, j4, j5⟩ | ⟨j3, j4⟩
    · have e := spec 0 j false true (by omega) j1 i3 j3
      rw [no 0 j false true (.inl rfl)] at e
      exact ⟨false, e, bad hsh, fun z => by cases z⟩
    · have e := spec 0 0 false false (by omega) (by omega) i3 j3
      rw [no 0 0 false false (.inl rfl)] at e
      exact ⟨false, e, bad hsh, fun z => by cases z⟩
theorem sheet_cases (a b : Int) : (∃ i j : Nat, i ≤ 3 ∧ j ≤ 3 ∧ a = ((2 ^ i : Nat) : Int) ∧ b = ((2 ^ j : Nat) : Int) ∧ spec_l04Power.f a = some ((i : Int), true) ∧ spec_l04Power.f b = some ((j : Int), true) ∧ spec_l04Sheet.f a b = some true ∧ impl_isSheet.f a b = some true ∧ Ev (fun k => impl_halvings.f k a) (i : Int) ∧ Ev (fun k => impl_halvings.f k b) (j : Int)) ∨ (spec_l04Sheet.f a b = some false ∧ impl_isSheet.f a b = some false) := by
  unfold spec_l04Sheet.f impl_isSheet.f
  rcases side_cases a with ⟨i, i1, i2, i3, i4, i5⟩ | ⟨i3, i4⟩
  · rcases side_cases b with ⟨j, j1, j2, j3, j4, j5⟩ | ⟨j3, j4⟩
    · exact .inl ⟨i, j, i1, j1, i2, j2, i3, j3, by rw [i3, j3]; rfl, by rw [i4, j4]; rfl, i5, j5⟩
    · exact .inr ⟨by rw [i3, j3]; rfl, by rw [i4, j4]; rfl⟩
  · refine .inr ⟨?_, by rw [i4]; rfl⟩
    rw [i3]
    rcases side_cases b with ⟨j, j1, j2, j3, j4, j5⟩ | ⟨j3, j4⟩
    · rw [j3]; rfl
    · rw [j3]; rfl
theorem codes_two (a b : Int) (s : ByteArray) (hs : s.size ≤ 1048576) : ∃ c : Int, Ev (fun k => spec_l04Code.f k a b s) c ∧ Ev (fun k => impl_checkScheme.f k a b s) c ∧ 0 ≤ c ∧ c ≤ 2 ∧ (c = 0 → okSch a b s) := by
  obtain ⟨v, v1, v2, v3⟩ := isScheme_two a b s hs
  unfold spec_l04Code.f impl_checkScheme.f
  rcases sheet_cases a b with ⟨i, j, _, _, _, _, _, _, s1, s2, _, _⟩ | ⟨s1, s2⟩
  · rw [s1, s2]
    cases hv : v with
    | true =>
      rw [hv] at v1 v2
      exact ⟨0, Ev.bind (Ev.now _) (Ev_ite_t rfl (Ev.bind v1 (Ev_ite_t rfl (Ev.now _)))), Ev.bind (Ev.now _) (Ev_ite_t rfl (Ev.bind v2 (Ev_ite_t rfl (Ev.now _)))), by omega, by omega, fun _ => v3 hv⟩
    | false =>
      rw [hv] at v1 v2
      exact ⟨2, Ev.bind (Ev.now _) (Ev_ite_t rfl (Ev.bind v1 (Ev_ite_f (by simp) (Ev.now _)))), Ev.bind (Ev.now _) (Ev_ite_t rfl (Ev.bind v2 (Ev_ite_f (by simp) (Ev.now _)))), by omega, by omega, fun z => by omega⟩
  · rw [s1, s2]
    exact ⟨1, Ev.bind (Ev.now _) (Ev_ite_f (by simp) (Ev.now _)), Ev.bind (Ev.now _) (Ev_ite_f (by simp) (Ev.now _)), by omega, by omega, fun z => by omega⟩
def dnL (x : SL) : Bool := x.f2 != x.f3
theorem ev_unique {α : Type} {g : Nat → Option α} {a b : α} (ha : Ev g a) (hb : Ev g b) : a = b := by
  obtain ⟨n, hn⟩ := ha
  obtain ⟨m, hm⟩ := hb
  exact Option.some.inj ((hn (max n m) (Nat.le_max_left _ _)).symm.trans (hm (max n m) (Nat.le_max_right _ _)))
theorem dn_togg (a : Bool) (v : SL) : dnL (spec_l04Turn.togg a v) = !dnL v := by
  obtain ⟨_, _, c, d⟩ := v
  cases a <;> cases c <;> cases d <;> rfl
theorem dn_turn (a : Bool) (l : List SL) : (turnL a l).countP dnL + l.countP dnL = l.length := by
  unfold turnL
  rw [List.countP_map, List.countP_reverse]
  induction l with
  | nil => rfl
  | cons x t ih =>
    rw [List.countP_cons, List.countP_cons, List.length_cons]
    have e : (dnL ∘ spec_l04Turn.togg a) x = !dnL x := dn_togg a x
    rw [e]
    cases hd : dnL x with
    | true => rw [if_neg (by decide), if_pos rfl]; omega
    | false => rw [if_pos (by decide), if_neg (by decide)]; omega
def HalfDn (g : Nat → Nat → List SL) (m : Nat) : Prop := ∀ y x, (g y x).length = m ∧ 2 * (g y x).countP dnL = m
theorem half_along {g : Nat → Nat → List SL} {m : Nat} (f : Bool) (W : Nat) (h : HalfDn g m) : HalfDn (gAlong f W g) (2 * m) := by
  intro y x
  unfold gAlong
  have h1 := dn_turn true (g y (ovr f W x))
  have h2 := h y (ovr f W x)
  have h3 := h y (und f W x)
  rw [List.length_append, turnL_len, List.countP_append]
  omega
theorem half_across {g : Nat → Nat → List SL} {m : Nat} (f : Bool) (H : Nat) (h : HalfDn g m) : HalfDn (gAcross f H g) (2 * m) := by
  intro y x
  unfold gAcross
  have h1 := dn_turn false (g (ovr f H y) x)
  have h2 := h (ovr f H y) x
  have h3 := h (und f H y) x
  rw [List.length_append, turnL_len, List.countP_append]
  omega
theorem half_fold : ∀ (t : List UInt8) (H W m : Nat) (g : Nat → Nat → List SL), HalfDn g m → 2 * (gfold t H W g).countP dnL = (gfold t H W g).length
  | [], H, W, m, g, h => by rw [gfold, (h 0 0).1]; exact (h 0 0).2
  | c :: t, H, W, m, g, h => by
    rw [gfold]
    split
    · exact half_fold t _ _ _ _ (half_along _ _ h)
    · exact half_fold t _ _ _ _ (half_across _ _ h)
theorem g0_one (y x : Nat) : (g0 y x).length = 1 ∧ (g0 y x).countP dnL = 0 := ⟨rfl, rfl⟩
theorem half_first (c : UInt8) (t : List UInt8) (H W : Nat) : 2 * (gfold (c :: t) H W g0).countP dnL = (gfold (c :: t) H W g0).length := by
  rw [gfold]
  split
  · refine half_fold t _ _ 2 _ (fun y x => ?_)
    unfold gAlong
    have h1 := dn_turn true (g0 y (ovr (c == 76) (W / 2) x))
    have h2 := g0_one y (ovr (c == 76) (W / 2) x)
    have h3 := g0_one y (und (c == 76) (W / 2) x)
    rw [List.length_append, turnL_len, List.countP_append]
    omega
  · refine half_fold t _ _ 2 _ (fun y x => ?_)
    unfold gAcross
    have h1 := dn_turn false (g0 (ovr (c == 84) (H / 2) y) x)
    have h2 := g0_one (ovr (c == 84) (H / 2) y) x
    have h3 := g0_one (und (c == 84) (H / 2) y) x
    rw [List.length_append, turnL_len, List.countP_append]
    omega
theorem fold_full {a b : Int} {s : ByteArray} (h : okSch a b s) : ∃ l : List SL, Ev (fun k => spec_l04Leaves.f k a b s) l ∧ Ev (fun k => impl_foldSheet.f k a b s) l ∧ l.length ≤ 64 ∧ (l.length : Int) = a * b ∧ wrap64 (a * b) = a * b ∧ (∀ x y : Int, 0 ≤ x → x < a → 0 ≤ y → y < b → l.countP (atL x y) = 1) ∧ (∀ v ∈ l, 0 ≤ v.f0 ∧ v.f0 < a ∧ 0 ≤ v.f1 ∧ v.f1 < b) ∧ (s.data.toList = [] ∨ 2 * l.countP dnL = l.length) := by
  obtain ⟨i, j, hi, hj, ha, hb, hall, hl, hn⟩ := h
  obtain ⟨h1, h2, h3⟩ := leaves_two hi hj ha hb hall hl hn
  have h64 : 2 ^ (i + j) ≤ 64 := p2le (n := 6) (by omega)
  have hab : ((2 ^ (i + j) : Nat) : Int) = a * b := by
    rw [ha, hb, Nat.pow_add]
    exact Int.natCast_mul _ _
  refine ⟨_, h1, h2, by rw [h3]; exact h64, by rw [h3]; exact hab, ?_, ?_, ?_, ?_⟩
  · rw [← hab]
    generalize 2 ^ (i + j) = q at h64
    exact w64 (by omega) (by omega)
  · intro x y x0 x1 y0 y1
    obtain ⟨x, rfl⟩ := Int.eq_ofNat_of_zero_le x0
    obtain ⟨y, rfl⟩ := Int.eq_ofNat_of_zero_le y0
    rw [ha] at x1
    rw [hb] at y1
    exact fold_count hl hn (Int.ofNat_lt.1 x1) (Int.ofNat_lt.1 y1)
  · rw [ha, hb]
    exact fold_in hl hn
  · cases hs : s.data.toList with
    | nil => exact .inl rfl
    | cons c t => exact .inr (half_first c t _ _)
/-- Both impose the same form. -/
theorem impose_two (a b : Int) (s : ByteArray) (hs : s.size ≤ 1048576) : ∃ r : Int × Int × List Int × List Int × List Int × Int, Ev (fun k => spec_ImposeSheet.f k a b s) r ∧ Ev (fun k => impl_ImposeSheet.f k a b s) r ∧ r.2.2.1.length ≤ 64 ∧ r.2.2.2.1.length ≤ 64 ∧ r.2.2.2.2.1.length ≤ 64 ∧ (r.2.2.2.2.2 = 0 → okSch a b s ∧ Ev (fun k => spec_l05Form.f k a b s) (r.1, r.2.1, r.2.2.1, r.2.2.2.1, r.2.2.2.2.1)) := by
  obtain ⟨c, c1, c2, _, _, c3⟩ := codes_two a b s hs
  unfold spec_ImposeSheet.f impl_ImposeSheet.f
  by_cases hc : c = 0
  · have hok := c3 hc
    obtain ⟨A, C, l, hA8, hC8, hA, hC, ha, hb, hl, hin, l1, l2⟩ := specForm hok
    obtain ⟨l', k1, k2, _, _, _, k6, _⟩ := fold_full hok
    obtain rfl := ev_unique l1 k1
    have h64 : A * C ≤ 64 := Nat.mul_le_mul hA8 hC8
    obtain ⟨n1, n2, n3⟩ := fAll_len A l 0 (z3_ (A * C))
    have hab : wrap64 (a * b) = ((A * C : Nat) : Int) := by
      have e : a * b = ((A * C : Nat) : Int) := by rw [ha, hb]; exact (Int.natCast_mul _ _).symm
      rw [e]
      generalize A * C = n at h64
      exact w64 (by omega) (by omega)
    have st := fAllI_ev A C hA8 hC8 l (by omega) hin l.length 0 (by omega) (z3_ (A * C)) (by simp [z3_]) (by simp [z3_]) (by simp [z3_])
    rw [List.drop_zero] at st
    rw [ha, hb] at k6
    rw [fAllI_eq hA l 0 (z3_ (A * C)) hin (apart_of_count hin k6) (fun v hv => by
      obtain ⟨v0, v1, v2, v3⟩ := hin v hv
      obtain ⟨_, _, q3, _⟩ := cellN hA8 hC8 v0 v1 v2 v3
      exact zeros_get q3)] at st
    obtain ⟨m0, m1, m2⟩ := zero_list (A * C) h64
    refine ⟨(a, b, (fAll A l 0 (z3_ (A * C))).1, (fAll A l 0 (z3_ (A * C))).2.1, (fAll A l 0 (z3_ (A * C))).2.2, 0), Ev.bind c1 (Ev_ite_t hc (Ev.bind l2 (Ev.now _))), ?_, ?_, ?_, ?_, fun _ => ⟨hok, l2⟩⟩
    · refine Ev.bind c2 (Ev_ite_t hc ?_)
      rw [hab]
      refine Ev_ite_t m0 (Ev_ite_t m1 (Ev.bind k2 ?_))
      rw [m2]
      subst ha hb
      exact st
    · show (fAll A l 0 (z3_ (A * C))).1.length ≤ 64
      rw [n1]; simp only [z3_, List.length_replicate]; exact h64
    · show (fAll A l 0 (z3_ (A * C))).2.1.length ≤ 64
      rw [n2]; simp only [z3_, List.length_replicate]; exact h64
    · show (fAll A l 0 (z3_ (A * C))).2.2.length ≤ 64
      rw [n3]; simp only [z3_, List.length_replicate]; exact h64
  · exact ⟨(0, 0, [], [], [], c), Ev.bind c1 (Ev_ite_f hc (Ev.now _)), Ev.bind c2 (Ev_ite_f hc (Ev.now _)), by simp, by simp, by simp, fun z => (hc z).elim⟩
theorem eqInt64S_ev (l : List Int) (hl : l.length ≤ 35184372088832) : Ev (fun k => laws_eqInt64S.f k l l) true := by
  have loop : ∀ (d i : Nat), i + d = l.length → Ev (fun k => laws_eqInt64S.l0 k l l (i : Int)) true := by
    intro d
    induction d with
    | zero =>
      intro i hi
      refine Ev.step (f := fun _ => some true) (fun k => by rw [laws_eqInt64S.l0, if_neg (by omega)]) (Ev.now _)
    | succ d ih =>
      intro i hi
      refine Ev.step (f := fun k => laws_eqInt64S.l0 k l l ((i + 1 : Nat) : Int)) (fun k => by rw [laws_eqInt64S.l0, if_pos (by omega), if_pos (by omega), if_pos (by omega), if_pos rfl, w64n i (by omega)]) ?_
      exact ih (i + 1) (by omega)
  refine Ev.congr (f := fun k => laws_eqInt64S.l0 k l l ((0 : Nat) : Int)) (fun k => ?_) (loop l.length 0 (by omega))
  simp only [laws_eqInt64S.f, if_true]
  rfl
theorem eqForm_ev (a b : Int) (F B H : List Int) (l1 : F.length ≤ 1048576) (l2 : B.length ≤ 1048576) (l3 : H.length ≤ 1048576) : Ev (fun k => laws_eqForm.f k a b F B H a b F B H) true := by
  unfold laws_eqForm.f
  first
    | exact Ev_ite_t rfl (Ev_ite_t rfl (Ev.bind (eqInt64S_ev F (by omega)) (Ev_ite_t rfl (Ev.bind (eqInt64S_ev B (by omega)) (Ev_ite_t rfl (eqInt64S_ev H (by omega)))))))
    | exact Ev_ite_t rfl (Ev_ite_t rfl (Ev.bind (eqInt64S_ev F (by omega)) (Ev_ite_t rfl (Ev.bind (eqInt64S_ev B (by omega)) (Ev_ite_t rfl (Ev.bind (eqInt64S_ev H (by omega)) (Ev_ite_t rfl (Ev.now _))))))))
    | exact Ev_ite_t rfl (Ev_ite_t rfl (Ev.bind (eqInt64S_ev F (by omega)) (Ev_ite_t rfl (Ev.bind (eqInt64S_ev B (by omega)) (Ev_ite_t rfl (Ev.bind (eqInt64S_ev H (by omega)) (Ev.now _)))))))
theorem markInt64S_ev (l : List Int) (q : Int) (hl : l.length ≤ 35184372088832) (hq : 0 ≤ q) (hq1 : q ≤ 1000000000000000000) :
    ∃ x : List Int, x.length = l.length ∧ (∀ j : Nat, j < l.length → rd x (j : Int) = q + j) ∧ Ev (fun k => laws_markInt64S.f k l q) (q + l.length, x) := by
  have loop : ∀ (d i : Nat), i + d = l.length → ∀ x : List Int, x.length = l.length → (∀ j : Nat, j < i → rd x (j : Int) = q + j) →
      ∃ y : List Int, y.length = l.length ∧ (∀ j : Nat, j < l.length → rd y (j : Int) = q + j) ∧ Ev (fun k => laws_markInt64S.l0 k x (q + i) (i : Int)) (q + l.length, y) := by
    intro d
    induction d with
    | zero =>
      intro i hi x hx h
      obtain rfl : i = l.length := by omega
      exact ⟨x, hx, h, Ev.step (f := fun _ => some (q + l.length, x)) (fun k => by rw [laws_markInt64S.l0, if_neg (by omega)]) (Ev.now _)⟩
    | succ d ih =>
      intro i hi x hx h
      obtain ⟨y, h1, h2, h3⟩ := ih (i + 1) (by omega) (x.set i (q + i)) (by rw [List.length_set]; exact hx) (fun j hj => by
        rw [rd_set (by omega)]
        by_cases e : i = j
        · rw [if_pos e, e]
        · rw [if_neg e]; exact h j (by omega))
      refine ⟨y, h1, h2, Ev.step (fun k => ?_) h3⟩
      have e1 : wrap64 (q + (i : Int) + 1) = q + ((i + 1 : Nat) : Int) := by rw [w64 (by omega) (by omega)]; omega
      rw [laws_markInt64S.l0, if_pos (by omega), if_pos (by omega), w64n i (by omega), toNat_cast, e1]
  obtain ⟨y, h1, h2, h3⟩ := loop l.length 0 (by omega) l rfl (fun j hj => by omega)
  refine ⟨y, h1, h2, Ev.congr (fun k => ?_) h3⟩
  simp only [laws_markInt64S.f]
  rw [show q + ((0 : Nat) : Int) = q by omega]
  rfl
theorem heldInt64S_ev (x : List Int) (n : Nat) (q : Int) (hx : x.length = n) (h : ∀ j : Nat, j < n → rd x (j : Int) = q + j) (hl : n ≤ 35184372088832) (hq : 0 ≤ q) (hq1 : q ≤ 1000000000000000000) :
    Ev (fun k => laws_heldInt64S.f k x q) (q + n) := by
  have loop : ∀ (d i : Nat), i + d = n → Ev (fun k => laws_heldInt64S.l0 k x (q + i) (i : Int)) (q + n) := by
    intro d
    induction d with
    | zero =>
      intro i hi
      obtain rfl : i = n := by omega
      exact Ev.step (f := fun _ => some (q + (i : Int))) (fun k => by rw [laws_heldInt64S.l0, if_neg (by omega)]) (Ev.now _)
    | succ d ih =>
      intro i hi
      refine Ev.step (fun k => ?_) (ih (i + 1) (by omega))
      have e1 : wrap64 (q + (i : Int) + 1) = q + ((i + 1 : Nat) : Int) := by rw [w64 (by omega) (by omega)]; omega
      rw [laws_heldInt64S.l0, if_pos (by omega), if_pos (by omega), if_pos (h i (by omega)), w64n i (by omega), e1]
  refine Ev.congr (fun k => ?_) (loop n 0 (by omega))
  simp only [laws_heldInt64S.f]
  rw [show q + ((0 : Nat) : Int) = q by omega]
  rfl
theorem markForm_ev (a b : Int) (F B H : List Int) (l1 : F.length ≤ 1048576) (l2 : B.length ≤ 1048576) (l3 : H.length ≤ 1048576) : ∃ (q : Int) (x y z : List Int), 0 ≤ q ∧ Ev (fun k => laws_markForm.f k a b F B H 1) (q, x, y, z) ∧ Ev (fun k => laws_heldForm.f k a b x y z 1) q := by
  obtain ⟨x, x1, x2, x3⟩ := markInt64S_ev F 1 (by omega) (by omega) (by omega)
  obtain ⟨y, y1, y2, y3⟩ := markInt64S_ev B (1 + F.length) (by omega) (by omega) (by omega)
  obtain ⟨z, z1, z2, z3⟩ := markInt64S_ev H (1 + F.length + B.length) (by omega) (by omega) (by omega)
  refine ⟨1 + F.length + B.length + H.length, x, y, z, by omega, ?_, ?_⟩
  · unfold laws_markForm.f
    exact Ev.bind x3 (Ev.bind y3 (Ev.bind z3 (Ev.now _)))
  · unfold laws_heldForm.f
    exact Ev.bind (heldInt64S_ev x F.length 1 x1 x2 (by omega) (by omega) (by omega)) (Ev_ite_f (by omega) (Ev.bind (heldInt64S_ev y B.length _ y1 y2 (by omega) (by omega) (by omega)) (Ev_ite_f (by omega) (Ev.bind (heldInt64S_ev z H.length _ z1 z2 (by omega) (by omega) (by omega)) (Ev_ite_f (by omega) (Ev.now _))))))
theorem FnExactImposeSheet : laws_FnExactImposeSheet.Pure := by
  intro a b s ha hb hs
  apply Ev.rounds
  unfold laws_FnExactImposeSheet.f
  by_cases hl : (s.size : Int) > 1048576
  · exact Ev_ite_t hl (Ev.now _)
  refine Ev_ite_f hl ?_
  obtain ⟨⟨c, d, F, B, H, e⟩, v1, v2, g1, g2, g3, _⟩ := impose_two a b s (by omega)
  simp only at g1 g2 g3
  have he := eqForm_ev c d F B H (by omega) (by omega) (by omega)
  obtain ⟨q, x, y, z, q0, m1, m2⟩ := markForm_ev c d F B H (by omega) (by omega) (by omega)
  refine Ev.bind v1 (Ev.bind v2 (Ev.bind he (Ev_ite_t rfl ?_)))
  refine Ev.step (fun k => by rw [laws_FnExactImposeSheet.j0, if_neg (by simp)]) ?_
  refine Ev.bind m1 (Ev.bind m2 (Ev_ite_f (by omega) (Ev_ite_t rfl (Ev.bind v2 (Ev.bind he (Ev_ite_t rfl ?_))))))
  refine Ev.step (fun k => by rw [laws_FnExactImposeSheet.j1, if_neg (by simp)]) ?_
  exact Ev.bind m2 (Ev_ite_f (by omega) (Ev_ite_t rfl (Ev.now _)))

end Go.Proofs.YtkpidjmhdagkfaaDoor.Pure
