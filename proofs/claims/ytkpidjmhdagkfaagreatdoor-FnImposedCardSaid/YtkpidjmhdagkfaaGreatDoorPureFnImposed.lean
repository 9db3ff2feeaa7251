/- The pure statement of FnImposed: for every input that the row lets in, the law's Lean function answers true; no further condition. -/
import Derived.Test.YtkpidjmhdagkfaaGreatDoorQFnImposedx0
import Derived.Test.YtkpidjmhdagkfaaGreatDoorQFnImposedx1
import Derived.Test.YtkpidjmhdagkfaaGreatDoorQFnImposedx2
import Derived.Test.YtkpidjmhdagkfaaGreatDoorQFnImposedx3
import Derived.Test.YtkpidjmhdagkfaaGreatDoorQFnImposedx4
import Derived.Test.YtkpidjmhdagkfaaGreatDoorQFnImposedx5
import Derived.Test.YtkpidjmhdagkfaaGreatDoorQFnImposedx6
import Derived.Test.YtkpidjmhdagkfaaGreatDoorQFnImposedx7
import Derived.Test.YtkpidjmhdagkfaaGreatDoorQFnImposedx8
import Derived.Test.YtkpidjmhdagkfaaGreatDoorQFnImposedx9
import Derived.Test.YtkpidjmhdagkfaaGreatDoorQFnImposedx10
import Derived.Test.YtkpidjmhdagkfaaGreatDoorQFnImposedx11
import Derived.Test.YtkpidjmhdagkfaaGreatDoorQFnImposedx12
import Derived.Test.YtkpidjmhdagkfaaGreatDoorQFnImposedx13
import Derived.Test.YtkpidjmhdagkfaaGreatDoorQFnImposedx14
set_option linter.unusedVariables false
set_option linter.unusedSimpArgs false
namespace Go.Proofs.YtkpidjmhdagkfaaGreatDoor.Pure
open Go.RowKit Go.Proofs.YtkpidjmhdagkfaaGreatDoor.QFnImposed Go.Proofs.YtkpidjmhdagkfaaGreatDoorW.PrintWords Go.Proofs.YtkpidjmhdagkfaaGreatDoorW.PrintLast
theorem w64 {x : Int} (h0 : -9223372036854775808 ≤ x) (h1 : x ≤ 9223372036854775807) : wrap64 x = x := by unfold wrap64; omega
theorem wf8 {x : Int} (h : (Lit.int .u8 x).wf = true) : 0 ≤ x ∧ x ≤ 255 := by
 have h' : (decide (IntKind.u8.min ≤ x) && decide (x ≤ IntKind.u8.max)) = true := h
 simp only [Bool.and_eq_true, decide_eq_true_eq] at h'
 exact h'
theorem iW {xs : List Int} {i : Nat} (h : i < xs.length) : rd xs (i : Int) = xs[i] := by
 simp [rd, List.getD_eq_getElem?_getD, h]
theorem Av (xs : List Int) (i : Nat) : rd xs (i : Int) = xs.getD i 0 := by simp [rd]
theorem tY {xs : List Int} {i : Nat} (h : i < xs.length) : rd xs (i : Int) ∈ xs := by rw [iW h]; exact List.getElem_mem h
theorem pq {xs : List Int} {i : Nat} (h : i < xs.length) : xs.drop i = rd xs (i : Int) :: xs.drop (i + 1) := by
 rw [iW h]; exact List.drop_eq_getElem_cons h
theorem bB {α : Type} {c : Prop} [Decidable c] {f g : Nat → Option α} {r : α} (h : c) (k : Ev f r) : Ev (fun n => if c then f n else g n) r :=
 Ev.congr (fun _ => if_pos h) k
theorem eH {α : Type} {c : Prop} [Decidable c] {f g : Nat → Option α} {r : α} (h : ¬ c) (k : Ev g r) : Ev (fun n => if c then f n else g n) r :=
 Ev.congr (fun _ => if_neg h) k
theorem jO (i : Nat) (h : i < 9223372036854775807) : wrap64 ((i : Int) + 1) = ((i + 1 : Nat) : Int) := by
 rw [w64 (by omega) (by omega)]; rfl
theorem uk (s : ByteArray) (i : Nat) (h : i < s.size) : bt s (i : Int) = ((s.data.toList[i]'(by simpa using h)).toNat : Int) := by
 unfold bt
 rw [dif_pos (by rw [Int.toNat_natCast]; exact h)]
 simp [ByteArray.getElem_eq_getElem_data]
def lrc (l : List UInt8) : Nat := List.count 76 l + List.count 82 l
theorem mI (c : UInt8) (t : List UInt8) : lrc (c :: t) = lrc t + (if c = 76 ∨ c = 82 then 1 else 0) := by
 unfold lrc
 rw [List.count_cons, List.count_cons]
 by_cases h1 : c = 76
 ·subst h1; simp; omega
 ·by_cases h2 : c = 82
  ·subst h2; simp; omega
  ·simp [h1, h2]
theorem sZ (l : List UInt8) : lrc l ≤ l.length := by
 induction l with
 | nil => decide
 | cons c t ih => rw [mI, List.length_cons]; split <;> omega
theorem qh (c : UInt8) (n : Nat) (hn : n < 256) : ((c.toNat : Int) = (n : Int)) ↔ c = UInt8.ofNat n := by
 have e : (UInt8.ofNat n).toNat = n := (show (UInt8.ofNat n).toNat = n % 256 from rfl).trans (Nat.mod_eq_of_lt hn)
 constructor
 ·intro h
  apply UInt8.toNat_inj.1
  rw [e]
  omega
 ·rintro rfl
  rw [e]
def sL (one two : Bool) : List UInt8 → Int → Int → Bool
 | [], a, b => if one = true then (if two = true then (if a = 0 then b == 0 else false) else false) else false
 | c :: t, a, b => if c = 76 ∨ c = 82 then sL one two t (a - 1) b else if c = 84 ∨ c = 66 then sL one two t a (b - 1) else false
theorem oQ (one two : Bool) : ∀ (l : List UInt8) (a b : Int), sL one two l a b = true ↔ (∀ x ∈ l, ([76, 82, 84, 66] : List UInt8).contains x = true) ∧ one = true ∧ two = true ∧ a = (lrc l : Int) ∧ b = (l.length : Int) - (lrc l : Int)
 | [], a, b => by
  rw [sL, show lrc [] = 0 from rfl]
  cases one <;> cases two <;> simp <;> omega
 | c :: t, a, b => by
  rw [sL, mI, List.length_cons]
  by_cases h1 : c = 76 ∨ c = 82
  ·rw [if_pos h1, if_pos h1, oQ one two t]
   have hc : ([76, 82, 84, 66] : List UInt8).contains c = true := by rcases h1 with rfl | rfl <;> decide
   constructor
   ·rintro ⟨g1, g2, g3, g4, g5⟩
    exact ⟨fun x hx => by rcases List.mem_cons.1 hx with rfl | hx; exact hc; exact g1 x hx, g2, g3, by omega, by omega⟩
   ·rintro ⟨g1, g2, g3, g4, g5⟩
    exact ⟨fun x hx => g1 x (List.mem_cons_of_mem _ hx), g2, g3, by omega, by omega⟩
  ·rw [if_neg h1, if_neg h1]
   by_cases h2 : c = 84 ∨ c = 66
   ·rw [if_pos h2, oQ one two t]
    have hc : ([76, 82, 84, 66] : List UInt8).contains c = true := by rcases h2 with rfl | rfl <;> decide
    constructor
    ·rintro ⟨g1, g2, g3, g4, g5⟩
     exact ⟨fun x hx => by rcases List.mem_cons.1 hx with rfl | hx; exact hc; exact g1 x hx, g2, g3, by omega, by omega⟩
    ·rintro ⟨g1, g2, g3, g4, g5⟩
     exact ⟨fun x hx => g1 x (List.mem_cons_of_mem _ hx), g2, g3, by omega, by omega⟩
   ·rw [if_neg h2]
    constructor
    ·intro z; cases z
    ·rintro ⟨g1, _⟩
     have := g1 c List.mem_cons_self
     simp only [List.contains_cons, List.contains_nil, Bool.or_false, Bool.or_eq_true, beq_iff_eq] at this
     rcases this with e | e | e | e
     ·exact (h1 (.inl e)).elim
     ·exact (h1 (.inr e)).elim
     ·exact (h2 (.inl e)).elim
     ·exact (h2 (.inr e)).elim
theorem kT (s : ByteArray) (one two : Bool) (hs : s.size ≤ 1048576) : ∀ (d i : Nat), i + d = s.size → ∀ a b : Int, -4000000 ≤ a - (d : Int) → a ≤ 4000000 → -4000000 ≤ b - (d : Int) → b ≤ 4000000 → Ev (fun k => bu.l0 k s a one b two (i : Int)) (sL one two (s.data.toList.drop i) a b) := by
 have hz : s.size = s.data.toList.length := by simp
 intro d
 induction d with
 | zero =>
  intro i hi a b _ _ _ _
  rw [List.drop_of_length_le (by omega), sL]
  refine Ev.step (f := fun _ => some (if one = true then (if two = true then (if a = 0 then b == 0 else false) else false) else false)) (fun k => ?_) (Ev.now _)
  rw [bu.l0, if_neg (by omega)]
  cases one <;> cases two <;> by_cases h : a = 0 <;> simp [h]
 | succ d ih =>
  intro i hi a b h1 h2 h3 h4
  have hil : i < s.data.toList.length := by omega
  rw [List.drop_eq_getElem_cons hil, sL]
  have hb := uk s i (by omega)
  generalize s.data.toList[i] = c at hb
  have b76 := qh c 76 (by omega)
  have b82 := qh c 82 (by omega)
  have b84 := qh c 84 (by omega)
  have b66 := qh c 66 (by omega)
  have e76 : bt s (i : Int) = 76 ↔ c = 76 := by rw [hb]; exact b76
  have e82 : bt s (i : Int) = 82 ↔ c = 82 := by rw [hb]; exact b82
  have e84 : bt s (i : Int) = 84 ↔ c = 84 := by rw [hb]; exact b84
  have e66 : bt s (i : Int) = 66 ↔ c = 66 := by rw [hb]; exact b66
  have step : ∀ r, Ev (fun k => bu.j1 k s a one b two (i : Int) (bt s (i : Int)) (decide (c = 76 ∨ c = 82))) r → Ev (fun k => bu.l0 k s a one b two (i : Int)) r := by
   intro r hr
   refine Ev.step (fun k => ?_) hr
   rw [bu.l0, if_pos (by omega), if_pos (by omega)]
   by_cases c1 : bt s (i : Int) = 76
   ·rw [if_pos c1, show ((bt s (i : Int)) == 76) = true from by rw [c1]; rfl, decide_eq_true (.inl (e76.1 c1))]
   ·rw [if_neg c1]
    by_cases c2 : bt s (i : Int) = 82
    ·rw [show ((bt s (i : Int)) == 82) = true from by rw [c2]; rfl, decide_eq_true (.inr (e82.1 c2))]
    ·rw [show ((bt s (i : Int)) == 82) = false from beq_false_of_ne c2, decide_eq_false (fun z => by rcases z with z | z; exact c1 (e76.2 z); exact c2 (e82.2 z))]
  apply step
  by_cases g1 : c = 76 ∨ c = 82
  ·rw [if_pos g1, decide_eq_true g1]
   refine Ev.step (fun k => by rw [bu.j1, if_pos rfl, jO i (by omega), w64 (x := a - 1) (by omega) (by omega)]) ?_
   exact ih (i + 1) (by omega) _ _ (by omega) (by omega) (by omega) (by omega)
  ·rw [if_neg g1, decide_eq_false g1]
   by_cases g2 : c = 84 ∨ c = 66
   ·rw [if_pos g2]
    refine Ev.step (f := fun k => bu.l0 k s a one (b - 1) two ((i + 1 : Nat) : Int)) (fun k => ?_) (ih (i + 1) (by omega) _ _ (by omega) (by omega) (by omega) (by omega))
    rw [bu.j1, if_neg (by simp), jO i (by omega), w64 (x := b - 1) (by omega) (by omega)]
    by_cases c3 : bt s (i : Int) = 84
    ·rw [if_pos c3]
    ·rw [if_neg c3, if_pos (e66.2 (by rcases g2 with z | z; exact (c3 (e84.2 z)).elim; exact z))]
   ·rw [if_neg g2]
    refine Ev.step (f := fun _ => some false) (fun k => ?_) (Ev.now _)
    rw [bu.j1, if_neg (by simp), if_neg (fun z => g2 (.inl (e84.1 z))), if_neg (fun z => g2 (.inr (e66.1 z)))]
abbrev SL := S64
def fH (H W : Nat) (g : Nat → Nat → List SL) : List (List (List SL)) := (List.range H).map fun y => (List.range W).map (g y)
theorem iO (H W : Nat) (g : Nat → Nat → List SL) : (fH H W g).length = H := by simp [fH]
theorem ny {H W : Nat} {g : Nat → Nat → List SL} {y : Nat} (h : y < H) : bI (fH H W g) (y : Int) = (List.range W).map (g y) := by
 unfold bI fH
 rw [Int.toNat_natCast, List.getD_eq_getElem?_getD, List.getElem?_map, List.getElem?_range h]
 rfl
theorem nQ {H W : Nat} {g : Nat → Nat → List SL} {y : Nat} (h : y < H) : (fH H W g).getD y [] = (List.range W).map (g y) := ny (W := W) (g := g) h
theorem nT {W : Nat} {f : Nat → List SL} {x : Nat} (h : x < W) : ek ((List.range W).map f) (x : Int) = f x := by
 unfold ek
 rw [Int.toNat_natCast, List.getD_eq_getElem?_getD, List.getElem?_map, List.getElem?_range h]
 rfl
theorem zb {W : Nat} {f : Nat → List SL} {x : Nat} (h : x < W) : ((List.range W).map f).getD x [] = f x := nT h
theorem jK (W : Nat) (f : Nat → List SL) : ((List.range W).map f).length = W := by simp
theorem jC {α : Type} (x : Nat) (f : Nat → α) : (List.range x).map f ++ [f x] = (List.range (x + 1)).map f := by rw [List.range_succ, List.map_append]; rfl
def jP (a : Bool) (l : List SL) : List SL := l.reverse.map (bQ.jy a)
theorem ja (a : Bool) (l : List SL) : (jP a l).length = l.length := by simp [jP]
theorem lh {l : List SL} (a : Bool) (h : l.length ≤ 64) : bQ.f l a = some (jP a l) := by unfold bQ.f; rw [if_pos (by omega)]; rfl
def ovr (f : Bool) (h i : Nat) : Nat := if f = true then h - 1 - i else 2 * h - 1 - i
def und (f : Bool) (h i : Nat) : Nat := if f = true then h + i else i
def iA (f : Bool) (W : Nat) (g : Nat → Nat → List SL) : Nat → Nat → List SL := fun y x => jP true (g y (ovr f W x)) ++ g y (und f W x)
def ic (f : Bool) (H : Nat) (g : Nat → Nat → List SL) : Nat → Nat → List SL := fun y x => jP false (g (ovr f H y) x) ++ g (und f H y) x
theorem Aj (h : Nat) (hh : h ≤ 100) : wrap64 (Int.tdiv ((2 * h : Nat) : Int) 2) = (h : Int) := by rw [Int.tdiv_eq_ediv_of_nonneg (by omega), w64 (by omega) (by omega)]; omega
theorem ltc {a b : Nat} (h : a < b) : (a : Int) < (b : Int) := Int.ofNat_lt.2 h
theorem nn (a : Nat) : 0 ≤ (a : Int) := Int.natCast_nonneg a
theorem BM {a b : Nat} (h : ¬ a < b) : ¬ (a : Int) < (b : Int) := fun z => h (Int.ofNat_lt.1 z)
theorem w2a {W x : Nat} (hW : W ≤ 8) (h : x < W) : wrap64 (wrap64 ((W : Int) - 1) - (x : Int)) = ((W - 1 - x : Nat) : Int) := by rw [w64 (x := (W : Int) - 1) (by omega) (by omega), w64 (by omega) (by omega)]; omega
theorem w2b {W x : Nat} (hW : W ≤ 8) (h : x ≤ W) : wrap64 ((W : Int) + (x : Int)) = ((W + x : Nat) : Int) := by rw [w64 (by omega) (by omega)]; omega
theorem Cr (W : Nat) (g : Nat → Nat → List SL) (y x : Nat) : iA true W g y x = jP true (g y (W - 1 - x)) ++ g y (W + x) := rfl
theorem Co (W : Nat) (g : Nat → Nat → List SL) (y x : Nat) : iA false W g y x = jP true (g y (2 * W - 1 - x)) ++ g y x := rfl
theorem zy {a b : List SL} (t : Bool) (ha : a.length ≤ 64) (hb : b.length ≤ 64) : (jP t a).length + b.length < 5864062014805 := by rw [ja]; omega
theorem qW {α : Type} {l : List α} (h : l.length ≤ 8) : l.length < 5864062014805 := by omega
theorem yl {H W : Nat} {g : Nat → Nat → List SL} (c : Int) (hW : W ≤ 4) (y : Nat) (hy : y < H) (hg : ∀ x, x < 2 * W → (g y x).length ≤ 64) (a5 : List (List (List SL))) (h5 : a5.length ≤ 8) (r : List (List (List SL)))
  (hr : Ev (fun k => aJ.l0 k (fH H (2 * W) g) c (a5 ++ [(List.range W).map (iA (c == 76) W g y)]) (wrap64 ((y : Int) + 1))) r) :
  ∀ d x : Nat, x + d = W → Ev (fun k => aJ.l1 k (fH H (2 * W) g) c a5 (y : Int) ((2 * W : Nat) : Int) ((List.range x).map (iA (c == 76) W g y)) (x : Int)) r := by
 have e1 := af.mk (Aj W (by omega))
 have hG : (y : Int) < ((fH H (2 * W) g).length : Int) := by rw [iO]; exact ltc hy
 have hR := ny (H := H) (W := 2 * W) (g := g) hy
 have hc0 : ∀ i : Nat, i < 2 * W → ek ((List.range (2 * W)).map (g y)) (i : Int) = g y i := fun i hi => nT hi
 have hlen : ∀ i : Nat, i < 2 * W → (i : Int) < (((List.range (2 * W)).map (g y)).length : Int) := fun i hi => by rw [jK]; exact ltc hi
 generalize fH H (2 * W) g = G at hr hG hR ⊢
 generalize (List.range (2 * W)).map (g y) = R at hR hc0 hlen
 intro d
 induction d with
 | zero =>
  intro x hx
  obtain rfl : x = W := by omega
  have hn : ¬ (x : Int) < (x : Int) := Int.lt_irrefl _
  exact Ev.step (fun k => by rw [aJ.l1, e1.out, if_neg hn, if_pos (qW h5)]) hr
 | succ d ih =>
  intro x hx
  have ih' := ih (x + 1) (by omega)
  have h8 : ((List.range x).map (iA (c == 76) W g y)).length ≤ 8 := by rw [jK]; omega
  rw [← jC, ← jO x (by omega)] at ih'
  generalize (List.range x).map (iA (c == 76) W g y) = acc at ih' h8 ⊢
  clear ih hr
  have f1 : (x : Int) < (W : Int) := ltc (by omega)
  have f4 := hlen (2 * W - 1 - x) (by omega)
  have f5 := hlen x (by omega)
  have e2 := af.mk (w2a (W := 2 * W) (x := x) (by omega) (by omega))
  by_cases hc : c = 76
  ·rw [show (c == 76) = true by rw [hc]; rfl, Cr] at ih'
   have f6 := hlen (W - 1 - x) (by omega)
   have f7 := hlen (W + x) (by omega)
   have l1 := hg (W - 1 - x) (by omega)
   have l2 := hg (W + x) (by omega)
   have e3 := af.mk (w2a (W := W) (x := x) (by omega) (by omega))
   have e4 := af.mk (w2b (W := W) (x := x) (by omega) (by omega))
   have c1 := hc0 (W - 1 - x) (by omega)
   have c2 := hc0 (W + x) (by omega)
   refine Ev.step (fun k => ?_) ih'
   rw [aJ.l1, e1.out, hR, e2.out, e3.out, e4.out, if_pos f1, if_pos (nn y), if_pos hG, if_pos (nn _), if_pos f4, if_pos (nn x), if_pos f5, if_pos hc, if_pos (nn _), if_pos f6, if_pos (nn _), if_pos f7, c1, c2, lh true l1, Option.bind_some, if_pos (zy true l1 l2), if_pos (qW h8)]
  ·rw [show (c == 76) = false from beq_false_of_ne hc, Co] at ih'
   have l1 := hg (2 * W - 1 - x) (by omega)
   have l2 := hg x (by omega)
   have c1 := hc0 (2 * W - 1 - x) (by omega)
   have c2 := hc0 x (by omega)
   refine Ev.step (fun k => ?_) ih'
   rw [aJ.l1, e1.out, hR, e2.out, if_pos f1, if_pos (nn y), if_pos hG, if_pos (nn _), if_pos f4, if_pos (nn x), if_pos f5, if_neg hc, c1, c2, lh true l1, Option.bind_some, if_pos (zy true l1 l2), if_pos (qW h8)]
theorem uE {H W : Nat} {g : Nat → Nat → List SL} (c : Int) (hH : H ≤ 8) (hW : W ≤ 4) (hg : ∀ y x, y < H → x < 2 * W → (g y x).length ≤ 64) : Ev (fun k => aJ.f k (fH H (2 * W) g) c) (fH H W (iA (c == 76) W g)) := by
 have key : ∀ d y : Nat, y + d = H → Ev (fun k => aJ.l0 k (fH H (2 * W) g) c ((List.range y).map fun y => (List.range W).map (iA (c == 76) W g y)) (y : Int)) (fH H W (iA (c == 76) W g)) := by
  intro d
  induction d with
  | zero =>
   intro y hy
   obtain rfl : y = H := by omega
   have hn : ¬ (y : Int) < ((fH y (2 * W) g).length : Int) := by rw [iO]; exact Int.lt_irrefl _
   exact Ev.step (f := fun _ => some (fH y W (iA (c == 76) W g))) (fun k => by rw [aJ.l0, if_neg hn]; rfl) (Ev.now _)
  | succ d ih =>
   intro y hy
   have ih' := ih (y + 1) (by omega)
   rw [← jC, ← jO y (by omega)] at ih'
   have h := yl c hW y (show y < H by omega) (fun x hx => hg y x (by omega) hx) _ (by rw [List.length_map, List.length_range]; omega) _ ih' W 0 (by omega)
   have hG : (y : Int) < ((fH H (2 * W) g).length : Int) := by rw [iO]; exact ltc (by omega)
   have hR : ((bI (fH H (2 * W) g) (y : Int)).length : Int) = ((2 * W : Nat) : Int) := by rw [ny (by omega), jK]
   refine Ev.step (fun k => ?_) h
   rw [aJ.l0, if_pos hG, if_pos (nn y), hR]
   rfl
 exact key H 0 (by omega)
theorem sQ {G : List (List (List SL))} {W : Nat} (c : Int) (hW : W ≤ 8) (fo fu : Nat → List SL) (hg : ∀ x, x < W → (fo x).length ≤ 64 ∧ (fu x).length ≤ 64) (a6 : List (List (List SL))) (h6 : a6.length ≤ 8) (y : Nat) (n : Int) (r : List (List (List SL)))
  (hr : Ev (fun k => aj.l0 k G c n (a6 ++ [(List.range W).map fun x => jP false (fo x) ++ fu x]) (wrap64 ((y : Int) + 1))) r) :
  ∀ d x : Nat, x + d = W → Ev (fun k => aj.l1 k G c n a6 (y : Int) ((List.range W).map fo) ((List.range W).map fu) ((List.range x).map fun x => jP false (fo x) ++ fu x) (x : Int)) r ∧ Ev (fun k => aj.nA k G c n a6 (y : Int) ((List.range W).map fo) ((List.range W).map fu) ((List.range x).map fun x => jP false (fo x) ++ fu x) (x : Int)) r := by
 have hO : ∀ i : Nat, i < W → (i : Int) < (((List.range W).map fo).length : Int) := fun i hi => by rw [jK]; exact ltc hi
 have hU : ∀ i : Nat, i < W → (i : Int) < (((List.range W).map fu).length : Int) := fun i hi => by rw [jK]; exact ltc hi
 have hN : ¬ (W : Int) < (((List.range W).map fo).length : Int) := by rw [jK]; exact Int.lt_irrefl _
 have cO : ∀ i : Nat, i < W → ek ((List.range W).map fo) (i : Int) = fo i := fun i hi => nT hi
 have cU : ∀ i : Nat, i < W → ek ((List.range W).map fu) (i : Int) = fu i := fun i hi => nT hi
 generalize (List.range W).map fo = RO at hO hN cO ⊢
 generalize (List.range W).map fu = RU at hU cU ⊢
 intro d
 induction d with
 | zero =>
  intro x hx
  obtain rfl : x = W := by omega
  exact ⟨Ev.step (fun k => by rw [aj.l1, if_neg hN, if_pos (qW h6)]) hr, Ev.step (fun k => by rw [aj.nA, if_neg hN, if_pos (qW h6)]) hr⟩
 | succ d ih =>
  intro x hx
  obtain ⟨i1, i2⟩ := ih (x + 1) (by omega)
  have h10 : ((List.range x).map fun x => jP false (fo x) ++ fu x).length ≤ 8 := by rw [List.length_map, List.length_range]; omega
  rw [← jC, ← jO x (by omega)] at i1 i2
  obtain ⟨l1, l2⟩ := hg x (by omega)
  have f1 := hO x (by omega)
  have f2 := hU x (by omega)
  have c1 := cO x (by omega)
  have c2 := cU x (by omega)
  generalize ((List.range x).map fun x => jP false (fo x) ++ fu x) = acc at i1 i2 h10 ⊢
  clear ih hr
  constructor
  ·refine Ev.step (fun k => ?_) i1
   rw [aj.l1, if_pos f1, if_pos (nn x), c1, c2, lh false l1, Option.bind_some, if_pos f2, if_pos (zy false l1 l2), if_pos (qW h10)]
  ·refine Ev.step (fun k => ?_) i2
   rw [aj.nA, if_pos f1, if_pos (nn x), c1, c2, lh false l1, Option.bind_some, if_pos f2, if_pos (zy false l1 l2), if_pos (qW h10)]
theorem sw {H W : Nat} {g : Nat → Nat → List SL} (c : Int) (hH : H ≤ 4) (hW : W ≤ 8) (hg : ∀ y x, y < 2 * H → x < W → (g y x).length ≤ 64) : Ev (fun k => aj.f k (fH (2 * H) W g) c) (fH H W (ic (c == 84) H g)) := by
 have e1 := af.mk (Aj H (by omega))
 have hlen : ∀ i : Nat, i < 2 * H → (i : Int) < ((fH (2 * H) W g).length : Int) := fun i hi => by rw [iO]; exact ltc hi
 have hrow : ∀ i : Nat, i < 2 * H → bI (fH (2 * H) W g) (i : Int) = (List.range W).map (g i) := fun i hi => ny hi
 have hL : ((fH (2 * H) W g).length : Int) = ((2 * H : Nat) : Int) := by rw [iO]
 have key : ∀ d y : Nat, y + d = H → Ev (fun k => aj.l0 k (fH (2 * H) W g) c ((2 * H : Nat) : Int) ((List.range y).map fun y => (List.range W).map (ic (c == 84) H g y)) (y : Int)) (fH H W (ic (c == 84) H g)) := by
  generalize fH (2 * H) W g = G at hlen hrow
  intro d
  induction d with
  | zero =>
   intro y hy
   obtain rfl : y = H := by omega
   have hn : ¬ (y : Int) < (y : Int) := Int.lt_irrefl _
   exact Ev.step (f := fun _ => some (fH y W (ic (c == 84) y g))) (fun k => by rw [aj.l0, e1.out, if_neg hn]; rfl) (Ev.now _)
  | succ d ih =>
   intro y hy
   have ih' := ih (y + 1) (by omega)
   rw [← jC, ← jO y (by omega)] at ih'
   have h6 : ((List.range y).map fun y => (List.range W).map (ic (c == 84) H g y)).length ≤ 8 := by rw [List.length_map, List.length_range]; omega
   generalize ((List.range y).map fun y => (List.range W).map (ic (c == 84) H g y)) = acc at ih' h6 ⊢
   have e2 := af.mk (w2a (W := 2 * H) (x := y) (by omega) (by omega))
   have f1 : (y : Int) < (H : Int) := ltc (by omega)
   have f2 := hlen (2 * H - 1 - y) (by omega)
   have f3 := hlen y (by omega)
   clear ih
   by_cases hc : c = 84
   ·have hcb : (c == 84) = true := by rw [hc]; rfl
    rw [hcb] at ih' ⊢
    have e3 := af.mk (w2a (W := H) (x := y) (by omega) (by omega))
    have e4 := af.mk (w2b (W := H) (x := y) (by omega) (by omega))
    have f4 := hlen (H - 1 - y) (by omega)
    have f5 := hlen (H + y) (by omega)
    have r1 := hrow (H - 1 - y) (by omega)
    have r2 := hrow (H + y) (by omega)
    have h := (sQ (G := G) c hW (g (H - 1 - y)) (g (H + y)) (fun x hx => ⟨hg _ x (by omega) hx, hg _ x (by omega) hx⟩) acc h6 y _ _ ih' W 0 (by omega)).1
    refine Ev.step (fun k => ?_) h
    rw [aj.l0, e1.out, e2.out, e3.out, e4.out, if_pos f1, if_pos (nn _), if_pos f2, if_pos (nn y), if_pos f3, if_pos hc, if_pos (nn _), if_pos f4, if_pos (nn _), if_pos f5, r1, r2]
    rfl
   ·have hcb : (c == 84) = false := beq_false_of_ne hc
    rw [hcb] at ih' ⊢
    have r1 := hrow (2 * H - 1 - y) (by omega)
    have r2 := hrow y (by omega)
    have h := (sQ (G := G) c hW (g (2 * H - 1 - y)) (g y) (fun x hx => ⟨hg _ x (by omega) hx, hg _ x (by omega) hx⟩) acc h6 y _ _ ih' W 0 (by omega)).2
    refine Ev.step (fun k => ?_) h
    rw [aj.l0, e1.out, e2.out, if_pos f1, if_pos (nn _), if_pos f2, if_pos (nn y), if_pos f3, if_neg hc, r1, r2]
    rfl
 have hk := key H 0 (by omega)
 unfold aj.f
 rw [hL]
 exact hk
def iN : List UInt8 → Nat → Nat → (Nat → Nat → List SL) → List SL
 | [], _, _, g => g 0 0
 | c :: t, H, W, g => if c = 76 ∨ c = 82 then iN t H (W / 2) (iA (c == 76) (W / 2) g) else iN t (H / 2) W (ic (c == 84) (H / 2) g)
def g0 : Nat → Nat → List SL := fun y x => [⟨(x : Int), (y : Int), false, false⟩]
theorem nV {H W : Nat} (hH : H ≤ 8) (hW : W ≤ 8) : Ev (fun k => bD.f k (W : Int) (H : Int)) (fH H W g0) := by
 have hin : ∀ (y : Nat) (a5 : List (List (List SL))) (r : List (List (List SL))), a5.length ≤ 8 → Ev (fun k => bD.l0 k (W : Int) (H : Int) (a5 ++ [(List.range W).map (g0 y)]) (wrap64 ((y : Int) + 1))) r → ∀ d x : Nat, x + d = W → Ev (fun k => bD.l1 k (W : Int) (H : Int) a5 (y : Int) ((List.range x).map (g0 y)) (x : Int)) r := by
  intro y a5 r h5 hr d
  induction d with
  | zero =>
   intro x hx
   obtain rfl : x = W := by omega
   have hn : ¬ (x : Int) < (x : Int) := Int.lt_irrefl _
   exact Ev.step (fun k => by rw [bD.l1, if_neg hn, if_pos (qW h5)]) hr
  | succ d ih =>
   intro x hx
   have ih' := ih (x + 1) (by omega)
   have h8 : ((List.range x).map (g0 y)).length ≤ 8 := by rw [jK]; omega
   have f1 : (x : Int) < (W : Int) := ltc (by omega)
   rw [← jC, ← jO x (by omega)] at ih'
   exact Ev.step (fun k => by rw [bD.l1, if_pos f1, if_pos (qW h8)]; rfl) ih'
 have key : ∀ d y : Nat, y + d = H → Ev (fun k => bD.l0 k (W : Int) (H : Int) ((List.range y).map fun y => (List.range W).map (g0 y)) (y : Int)) (fH H W g0) := by
  intro d
  induction d with
  | zero =>
   intro y hy
   obtain rfl : y = H := by omega
   have hn : ¬ (y : Int) < (y : Int) := Int.lt_irrefl _
   exact Ev.step (f := fun _ => some (fH y W g0)) (fun k => by rw [bD.l0, if_neg hn]; rfl) (Ev.now _)
  | succ d ih =>
   intro y hy
   have ih' := ih (y + 1) (by omega)
   rw [← jC, ← jO y (by omega)] at ih'
   have f1 : (y : Int) < (H : Int) := ltc (by omega)
   have h := hin y _ _ (by rw [List.length_map, List.length_range]; omega) ih' W 0 (by omega)
   exact Ev.step (fun k => by rw [bD.l0, if_pos f1]; rfl) h
 exact key H 0 (by omega)
theorem ky {s : ByteArray} {pos : Nat} {G G' : List (List (List SL))} {r : List SL} (hp : pos < s.size) (hp2 : pos < 1000) (hb : bt s (pos : Int) = 76 ∨ bt s (pos : Int) = 82) (h1 : Ev (fun k => aJ.f k G (bt s (pos : Int))) G') (h2 : Ev (fun k => aT.l0 k s G' ((pos + 1 : Nat) : Int)) r) : Ev (fun k => aT.l0 k s G (pos : Int)) r := by
 have f1 : (pos : Int) < (s.size : Int) := ltc hp
 refine Ev.step (f := fun k => aT.j1 k s G (pos : Int) true) (fun k => ?_) ?_
 ·rw [aT.l0, if_pos f1, if_pos (nn _)]
  rcases hb with hb | hb
  ·rw [if_pos hb]
  ·rw [if_neg (by rw [hb]; decide), hb]; rfl
 ·refine Ev.step (fun k => by rw [aT.j1, if_pos rfl, if_pos (nn _), if_pos f1, jO pos (by omega)]) ?_
  exact Ev.bind h1 h2
theorem kv {s : ByteArray} {pos : Nat} {G G' : List (List (List SL))} {r : List SL} (hp : pos < s.size) (hp2 : pos < 1000) (hb : bt s (pos : Int) = 84 ∨ bt s (pos : Int) = 66) (h1 : Ev (fun k => aj.f k G (bt s (pos : Int))) G') (h2 : Ev (fun k => aT.l0 k s G' ((pos + 1 : Nat) : Int)) r) : Ev (fun k => aT.l0 k s G (pos : Int)) r := by
 have f1 : (pos : Int) < (s.size : Int) := ltc hp
 refine Ev.step (f := fun k => aT.j1 k s G (pos : Int) false) (fun k => ?_) ?_
 ·rw [aT.l0, if_pos f1, if_pos (nn _)]
  rcases hb with hb | hb
  ·rw [if_neg (by rw [hb]; decide), hb]; rfl
  ·rw [if_neg (by rw [hb]; decide), hb]; rfl
 ·refine Ev.step (fun k => by rw [aT.j1, if_neg (by simp), if_pos (nn _), if_pos f1, jO pos (by omega)]) ?_
  exact Ev.bind h1 h2
theorem mE {i n : Nat} (h : i ≤ n) : 2 ^ i ≤ 2 ^ n := Nat.pow_le_pow_right (by omega) h
def kQ (a b : Int) (s : ByteArray) : Prop := ∃ i j : Nat, i ≤ 3 ∧ j ≤ 3 ∧ a = ((2 ^ i : Nat) : Int) ∧ b = ((2 ^ j : Nat) : Int) ∧ (∀ x ∈ s.data.toList, ([76, 82, 84, 66] : List UInt8).contains x = true) ∧ lrc s.data.toList = i ∧ s.data.toList.length = i + j
def jh : Nat → (Nat → Nat) → Nat
 | 0, _ => 0
 | n + 1, f => jh n f + f n
theorem iK {n : Nat} {f g : Nat → Nat} (h : ∀ i, i < n → f i = g i) : jh n f = jh n g := by
 induction n with
 | zero => rfl
 | succ n ih => rw [jh, jh, ih (fun i hi => h i (by omega)), h n (by omega)]
theorem rZ (m n : Nat) (f : Nat → Nat) : jh (m + n) f = jh m f + jh n (fun i => f (m + i)) := by
 induction n with
 | zero => rfl
 | succ n ih => rw [← Nat.add_assoc, jh, ih, jh]; omega
theorem uM (n : Nat) (f : Nat → Nat) : jh n f = jh n (fun i => f (n - 1 - i)) := by
 induction n generalizing f with
 | zero => rfl
 | succ n ih =>
  rw [jh, ih f, Nat.add_comm n 1, rZ 1 n]
  show _ = (0 + f (1 + n - 1 - 0)) + _
  rw [show 1 + n - 1 - 0 = n by omega, Nat.zero_add, Nat.add_comm]
  congr 1
  exact iK (fun i hi => by rw [show 1 + n - 1 - (1 + i) = n - 1 - i by omega])
theorem uB (n : Nat) (f g : Nat → Nat) : jh n (fun i => f i + g i) = jh n f + jh n g := by
 induction n with
 | zero => rfl
 | succ n ih => rw [jh, jh, jh, ih]; omega
theorem rR (b : Bool) (n : Nat) (f : Nat → Nat) : jh (2 * n) f = jh n (fun i => f (ovr b n i) + f (und b n i)) := by
 rw [uB, Nat.two_mul, rZ]
 cases b
 ·rw [show jh n (fun i => f (und false n i)) = jh n f from rfl, uM n (fun i => f (n + i)), Nat.add_comm]
  congr 1
  exact iK (fun i hi => by show f (n + (n - 1 - i)) = f (2 * n - 1 - i); rw [show n + (n - 1 - i) = 2 * n - 1 - i by omega])
 ·rw [show jh n (fun i => f (und true n i)) = jh n (fun i => f (n + i)) from rfl, uM n f]
  rfl
theorem qL {P : SL → Bool} (hP : ∀ a x, P (bQ.jy a x) = P x) (a : Bool) (l : List SL) : (jP a l).countP P = l.countP P := by
 unfold jP
 rw [List.countP_map, List.countP_reverse]
 congr 1
 funext x
 exact hP a x
def qz (P : SL → Bool) (H W : Nat) (g : Nat → Nat → List SL) : Nat := jh H (fun y => jh W (fun x => (g y x).countP P))
theorem vX {P : SL → Bool} (hP : ∀ a x, P (bQ.jy a x) = P x) (b : Bool) (H W : Nat) (g : Nat → Nat → List SL) : qz P H W (iA b W g) = qz P H (2 * W) g := by
 unfold qz
 refine iK (fun y _ => ?_)
 rw [rR b]
 refine iK (fun x _ => ?_)
 unfold iA
 rw [List.countP_append, qL hP]
theorem uJ {P : SL → Bool} (hP : ∀ a x, P (bQ.jy a x) = P x) (b : Bool) (H W : Nat) (g : Nat → Nat → List SL) : qz P H W (ic b H g) = qz P (2 * H) W g := by
 unfold qz
 rw [rR b]
 refine iK (fun y _ => ?_)
 rw [← uB]
 refine iK (fun x _ => ?_)
 unfold ic
 rw [List.countP_append, qL hP]
theorem kR {P : SL → Bool} (hP : ∀ a x, P (bQ.jy a x) = P x) : ∀ (t : List UInt8) (i j : Nat) (g : Nat → Nat → List SL), lrc t = i → t.length = i + j → (iN t (2 ^ j) (2 ^ i) g).countP P = qz P (2 ^ j) (2 ^ i) g
 | [], i, j, g, h1, h2 => by
  obtain rfl : i = 0 := by rw [← h1]; rfl
  obtain rfl : j = 0 := by simpa using h2.symm
  show (g 0 0).countP P = 0 + (0 + (g 0 0).countP P)
  omega
 | c :: t, i, j, g, h1, h2 => by
  rw [mI] at h1
  rw [List.length_cons] at h2
  have hle := sZ t
  rw [iN]
  by_cases hc : c = 76 ∨ c = 82
  ·rw [if_pos hc] at h1
   obtain ⟨i, rfl⟩ : ∃ q, i = q + 1 := ⟨i - 1, by omega⟩
   rw [if_pos hc, Nat.pow_succ 2 i, Nat.mul_comm (2 ^ i) 2, Nat.mul_div_cancel_left _ (by omega : 0 < 2), kR hP t i j _ (by omega) (by omega), vX hP]
  ·rw [if_neg hc] at h1
   obtain ⟨j, rfl⟩ : ∃ q, j = q + 1 := ⟨j - 1, by omega⟩
   rw [if_neg hc, Nat.pow_succ 2 j, Nat.mul_comm (2 ^ j) 2, Nat.mul_div_cancel_left _ (by omega : 0 < 2), kR hP t i j _ (by omega) (by omega), uJ hP]
def atL (x y : Int) (v : SL) : Bool := if v.f0 = x then v.f1 == y else false
theorem yD (x y : Int) (a : Bool) (v : SL) : atL x y (bQ.jy a v) = atL x y v := by cases a <;> rfl
theorem uu (n a : Nat) (h : a < n) (c : Nat) : jh n (fun i => if i = a then c else 0) = c := by
 have hz : ∀ m, m ≤ a → jh m (fun i => if i = a then c else 0) = 0 := by
  intro m
  induction m with
  | zero => intro _; rfl
  | succ m ih => intro hm; rw [jh, ih (by omega), if_neg (by omega)]
 induction n with
 | zero => omega
 | succ n ih =>
  rw [jh]
  by_cases he : n = a
  ·rw [if_pos he, hz n (by omega), Nat.zero_add]
  ·rw [if_neg he, ih (by omega), Nat.add_zero]
theorem vz (H W x y : Nat) (hx : x < W) (hy : y < H) : qz (atL (x : Int) (y : Int)) H W g0 = 1 := by
 unfold qz
 rw [← uu H y hy 1]
 refine iK (fun j _ => ?_)
 by_cases hj : j = y
 ·subst hj
  rw [if_pos rfl, ← uu W x hx 1]
  refine iK (fun i _ => ?_)
  unfold g0 atL
  by_cases hi : i = x
  ·subst hi; simp
  ·rw [if_neg hi]
   have : ¬ ((i : Int) = (x : Int)) := by omega
   simp [this]
 ·rw [if_neg hj]
  rw [show jh W (fun i => (g0 j i).countP (atL (x : Int) (y : Int))) = jh W (fun _ => 0) from iK (fun i _ => by
   unfold g0 atL
   have : ¬ ((j : Int) = (y : Int)) := by omega
   simp [this])]
  have hz : ∀ m, jh m (fun _ => 0) = 0 := by
   intro m
   induction m with
   | zero => rfl
   | succ m ih => rw [jh, ih]
  exact hz W
theorem wu {s : List UInt8} {i j x y : Nat} (hl : lrc s = i) (hn : s.length = i + j) (hx : x < 2 ^ i) (hy : y < 2 ^ j) : (iN s (2 ^ j) (2 ^ i) g0).countP (atL (x : Int) (y : Int)) = 1 := by
 rw [kR (yD _ _) s i j g0 hl hn, vz _ _ x y hx hy]
def vT (W H : Nat) (v : SL) : Bool := !decide (0 ≤ v.f0 ∧ v.f0 < (W : Int) ∧ 0 ≤ v.f1 ∧ v.f1 < (H : Int))
theorem xk (W H : Nat) (a : Bool) (v : SL) : vT W H (bQ.jy a v) = vT W H v := by cases a <;> rfl
theorem rQ (m : Nat) : jh m (fun _ => 0) = 0 := by
 induction m with
 | zero => rfl
 | succ m ih => rw [jh, ih]
theorem wX {s : List UInt8} {i j : Nat} (hl : lrc s = i) (hn : s.length = i + j) : ∀ v ∈ iN s (2 ^ j) (2 ^ i) g0, 0 ≤ v.f0 ∧ v.f0 < ((2 ^ i : Nat) : Int) ∧ 0 ≤ v.f1 ∧ v.f1 < ((2 ^ j : Nat) : Int) := by
 have h := kR (xk (2 ^ i) (2 ^ j)) s i j g0 hl hn
 have hz : qz (vT (2 ^ i) (2 ^ j)) (2 ^ j) (2 ^ i) g0 = 0 := by
  unfold qz
  rw [← rQ (2 ^ j)]
  refine iK (fun y hy => ?_)
  rw [← rQ (2 ^ i)]
  refine iK (fun x hx => ?_)
  have hp : vT (2 ^ i) (2 ^ j) ⟨(x : Int), (y : Int), false, false⟩ = false := by
   unfold vT
   rw [decide_eq_true ⟨nn x, ltc hx, nn y, ltc hy⟩]
   rfl
  show ([⟨(x : Int), (y : Int), false, false⟩] : List SL).countP (vT (2 ^ i) (2 ^ j)) = 0
  rw [List.countP_cons, hp]
  rfl
 rw [hz, List.countP_eq_zero] at h
 intro v hv
 have := h v hv
 unfold vT at this
 simpa using this
theorem tV (s : ByteArray) (hs : s.size ≤ 6) : ∀ (d pos i j C : Nat) (g : Nat → Nat → List SL), pos + d = s.size → (∀ x ∈ s.data.toList.drop pos, ([76, 82, 84, 66] : List UInt8).contains x = true) → lrc (s.data.toList.drop pos) = i → d = i + j → i ≤ 3 → j ≤ 3 → (∀ y x, y < 2 ^ j → x < 2 ^ i → (g y x).length = C) → C * 2 ^ d ≤ 64 →
  Ev (fun k => aT.l0 k s (fH (2 ^ j) (2 ^ i) g) (pos : Int)) (iN (s.data.toList.drop pos) (2 ^ j) (2 ^ i) g) ∧ (iN (s.data.toList.drop pos) (2 ^ j) (2 ^ i) g).length = C * 2 ^ d := by
 have hz : s.size = s.data.toList.length := by simp
 intro d
 induction d with
 | zero =>
  intro pos i j C g hp hall hl hd hi hj hC h64
  obtain rfl : i = 0 := by omega
  obtain rfl : j = 0 := by omega
  rw [List.drop_of_length_le (by omega), iN]
  have n1 : ¬ (pos : Int) < (s.size : Int) := BM (by omega)
  have a1 : (0 : Int) < ((fH (2 ^ 0) (2 ^ 0) g).length : Int) := by rw [iO]; decide
  have a2 : bI (fH (2 ^ 0) (2 ^ 0) g) 0 = [g 0 0] := rfl
  have a3 : ek [g 0 0] 0 = g 0 0 := rfl
  have a4 : (0 : Int) < (([g 0 0] : List (List SL)).length : Int) := by show (0 : Int) < 1; decide
  refine ⟨Ev.step (f := fun _ => some (g 0 0)) (fun k => ?_) (Ev.now _), by rw [hC 0 0 (by decide) (by decide)]; omega⟩
  rw [aT.l0, if_neg n1, if_pos a1, a2, if_pos a4, a3]
 | succ d ih =>
  intro pos i j C g hp hall hl hd hi hj hC h64
  have hil : pos < s.data.toList.length := by omega
  have hdr := List.drop_eq_getElem_cons hil
  have hb := uk s pos (by omega)
  rw [hdr] at hall hl ⊢
  have hc := hall _ List.mem_cons_self
  have hall' := fun x hx => hall x (List.mem_cons_of_mem _ hx)
  rw [mI] at hl
  generalize s.data.toList[pos] = c at hb hc hl ⊢
  have hCle : C ≤ 32 := by
   have h1 : 1 ≤ 2 ^ d := Nat.one_le_two_pow
   rw [Nat.pow_succ] at h64
   have h2 : C * 2 ≤ C * (2 ^ d * 2) := Nat.mul_le_mul_left _ (by omega)
   omega
  have h64' : (C + C) * 2 ^ d ≤ 64 := by rw [Nat.pow_succ] at h64; rw [Nat.add_mul, ← Nat.two_mul, ← Nat.mul_assoc, Nat.mul_comm 2 C, Nat.mul_assoc, Nat.mul_comm 2]; exact h64
  have hlen' : (C + C) * 2 ^ d = C * 2 ^ (d + 1) := by rw [Nat.pow_succ, Nat.add_mul, ← Nat.two_mul, ← Nat.mul_assoc, Nat.mul_comm 2 C, Nat.mul_assoc, Nat.mul_comm 2]
  by_cases h1 : c = 76 ∨ c = 82
  ·rw [if_pos h1] at hl
   obtain ⟨i, rfl⟩ : ∃ q, i = q + 1 := ⟨i - 1, by omega⟩
   have hW : 2 ^ (i + 1) = 2 * 2 ^ i := by rw [Nat.pow_succ, Nat.mul_comm]
   have hW4 : 2 ^ i ≤ 4 := mE (n := 2) (by omega)
   have hH8 : 2 ^ j ≤ 8 := mE (n := 3) hj
   have hH0 : 0 < 2 ^ j := Nat.pow_pos (by omega)
   rw [iN, if_pos h1, hW, Nat.mul_div_cancel_left _ (by omega : 0 < 2)]
   have hg : ∀ y x, y < 2 ^ j → x < 2 * 2 ^ i → (g y x).length ≤ 64 := fun y x hy hx => by rw [hC y x hy (by rw [hW]; exact hx)]; omega
   have hC' : ∀ y x, y < 2 ^ j → x < 2 ^ i → (iA (c == 76) (2 ^ i) g y x).length = C + C := fun y x hy hx => by
    unfold iA
    rw [List.length_append, ja, hC y _ hy (by rw [hW]; unfold ovr; split <;> omega), hC y _ hy (by rw [hW]; unfold und; split <;> omega)]
   obtain ⟨j1, j3⟩ := ih (pos + 1) i j (C + C) (iA (c == 76) (2 ^ i) g) (by omega) hall' (by omega) (by omega) (by omega) hj hC' h64'
   have a1 := uE (bt s (pos : Int)) hH8 hW4 hg
   rcases h1 with rfl | rfl
   ·have hb' : bt s (pos : Int) = 76 := hb
    refine ⟨ky (by omega) (by omega) (.inl hb') a1 ?_, j3.trans hlen'⟩
    rw [hb']; exact j1
   ·have hb' : bt s (pos : Int) = 82 := hb
    refine ⟨ky (by omega) (by omega) (.inr hb') a1 ?_, j3.trans hlen'⟩
    rw [hb']; exact j1
  ·rw [if_neg h1] at hl
   have hdj : lrc (s.data.toList.drop (pos + 1)) ≤ d := by
    have := sZ (s.data.toList.drop (pos + 1))
    rw [List.length_drop] at this
    omega
   have h2 : c = 84 ∨ c = 66 := by
    simp only [List.contains_cons, List.contains_nil, Bool.or_false, Bool.or_eq_true, beq_iff_eq] at hc
    rcases hc with e | e | e | e
    ·exact (h1 (.inl e)).elim
    ·exact (h1 (.inr e)).elim
    ·exact .inl e
    ·exact .inr e
   obtain ⟨j, rfl⟩ : ∃ q, j = q + 1 := ⟨j - 1, by omega⟩
   have hH : 2 ^ (j + 1) = 2 * 2 ^ j := by rw [Nat.pow_succ, Nat.mul_comm]
   have hH4 : 2 ^ j ≤ 4 := mE (n := 2) (by omega)
   have hW8 : 2 ^ i ≤ 8 := mE (n := 3) hi
   have hH0 : 0 < 2 ^ j := Nat.pow_pos (by omega)
   rw [iN, if_neg h1, hH, Nat.mul_div_cancel_left _ (by omega : 0 < 2)]
   have hg : ∀ y x, y < 2 * 2 ^ j → x < 2 ^ i → (g y x).length ≤ 64 := fun y x hy hx => by rw [hC y x (by rw [hH]; exact hy) hx]; omega
   have hC' : ∀ y x, y < 2 ^ j → x < 2 ^ i → (ic (c == 84) (2 ^ j) g y x).length = C + C := fun y x hy hx => by
    unfold ic
    rw [List.length_append, ja, hC _ x (by rw [hH]; unfold ovr; split <;> omega) hx, hC _ x (by rw [hH]; unfold und; split <;> omega) hx]
   obtain ⟨j1, j3⟩ := ih (pos + 1) i j (C + C) (ic (c == 84) (2 ^ j) g) (by omega) hall' (by omega) (by omega) hi (by omega) hC' h64'
   have a1 := sw (bt s (pos : Int)) hH4 hW8 hg
   rcases h2 with rfl | rfl
   ·have hb' : bt s (pos : Int) = 84 := hb
    refine ⟨kv (by omega) (by omega) (.inl hb') a1 ?_, j3.trans hlen'⟩
    rw [hb']; exact j1
   ·have hb' : bt s (pos : Int) = 66 := hb
    refine ⟨kv (by omega) (by omega) (.inr hb') a1 ?_, j3.trans hlen'⟩
    rw [hb']; exact j1
theorem uF {a b : Int} {s : ByteArray} (h : kQ a b s) : ∃ (i j : Nat), i ≤ 3 ∧ j ≤ 3 ∧ a = ((2 ^ i : Nat) : Int) ∧ b = ((2 ^ j : Nat) : Int) ∧ lrc s.data.toList = i ∧ s.data.toList.length = i + j ∧ Ev (fun k => aT.f k a b s) (iN s.data.toList (2 ^ j) (2 ^ i) g0) ∧ (iN s.data.toList (2 ^ j) (2 ^ i) g0).length = 2 ^ (i + j) := by
 obtain ⟨i, j, hi, hj, ha, hb, hall, hl, hn⟩ := h
 have hz : s.size = s.data.toList.length := by simp
 refine ⟨i, j, hi, hj, ha, hb, hl, hn, ?_⟩
 subst ha hb
 have hW8 : 2 ^ i ≤ 8 := mE (n := 3) hi
 have hH8 : 2 ^ j ≤ 8 := mE (n := 3) hj
 obtain ⟨h1, h3⟩ := tV s (by omega) s.size 0 i j 1 g0 (by omega) hall hl (by omega) hi hj (fun _ _ _ _ => rfl) (by rw [Nat.one_mul]; exact mE (n := 6) (by omega))
 rw [List.drop_zero] at h1 h3
 refine ⟨?_, ?_⟩
 ·unfold aT.f
  exact Ev.bind (nV hH8 hW8) h1
 ·rw [h3, hz, hn, Nat.one_mul]
theorem wz (a : Int) : (∃ j : Nat, j ≤ 3 ∧ a = ((2 ^ j : Nat) : Int) ∧ bL.f a = some ((j : Int), true)) ∨ bL.f a = some (0, false) := by
 unfold bL.f
 by_cases h1 : a = 1
 ·exact .inl ⟨0, by decide, h1, if_pos h1⟩
 by_cases h2 : a = 2
 ·exact .inl ⟨1, by decide, h2, by rw [if_neg h1, if_pos h2]; rfl⟩
 by_cases h4 : a = 4
 ·exact .inl ⟨2, by decide, h4, by rw [if_neg h1, if_neg h2, if_pos h4]; rfl⟩
 by_cases h8 : a = 8
 ·exact .inl ⟨3, by decide, h8, by rw [if_neg h1, if_neg h2, if_neg h4, if_pos h8]; rfl⟩
 ·exact .inr (by rw [if_neg h1, if_neg h2, if_neg h4, if_neg h8])
theorem Ce (a b : Int) (s : ByteArray) (hs : s.size ≤ 1048576) : ∃ c : Int, Ev (fun k => eZ.f k a b s) c ∧ 0 ≤ c ∧ c ≤ 2 ∧ (c = 0 → kQ a b s) := by
 have bad : dJ.f a b = some false → Ev (fun k => eZ.f k a b s) 1 := fun h => by
  unfold eZ.f
  rw [h]
  exact Ev.bind (Ev.now _) (eH (by simp) (Ev.now _))
 rcases wz a with ⟨i, i1, i2, i3⟩ | i3
 ·rcases wz b with ⟨j, j1, j2, j3⟩ | j3
  ·have hsh : dJ.f a b = some true := by unfold dJ.f; rw [i3, j3]; rfl
   have e := kT s true true hs s.size 0 (by omega) (i : Int) (j : Int) (by omega) (by omega) (by omega) (by omega)
   rw [List.drop_zero] at e
   have e2 : Ev (fun k => bu.f k a b s) (sL true true s.data.toList (i : Int) (j : Int)) := by
    unfold bu.f
    rw [i3, j3]
    exact Ev.bind (Ev.now _) (Ev.bind (Ev.now _) e)
   have hiff := oQ true true s.data.toList (i : Int) (j : Int)
   generalize sL true true s.data.toList (i : Int) (j : Int) = v at e2 hiff
   cases v with
   | true =>
    obtain ⟨g1, _, _, g4, g5⟩ := hiff.1 rfl
    refine ⟨0, ?_, by omega, by omega, fun _ => ⟨i, j, i1, j1, i2, j2, g1, by omega, by omega⟩⟩
    unfold eZ.f
    rw [hsh]
    exact Ev.bind (Ev.now _) (bB rfl (Ev.bind e2 (bB rfl (Ev.now _))))
   | false =>
    refine ⟨2, ?_, by omega, by omega, fun z => by cases z⟩
    unfold eZ.f
    rw [hsh]
    exact Ev.bind (Ev.now _) (bB rfl (Ev.bind e2 (eH (by simp) (Ev.now _))))
  ·exact ⟨1, bad (by unfold dJ.f; rw [i3, j3]; rfl), by omega, by omega, fun z => by cases z⟩
 ·refine ⟨1, bad ?_, by omega, by omega, fun z => by cases z⟩
  unfold dJ.f
  rw [i3]
  rcases wz b with ⟨j, j1, j2, j3⟩ | j3 <;> (rw [j3]; rfl)
theorem uh {l : List SL} {i : Nat} (h : i < l.length) : ag l (i : Int) = l[i] := by
 unfold ag
 rw [Int.toNat_natCast, List.getD_eq_getElem?_getD, List.getElem?_eq_getElem h]
 rfl
def dn5 (v : SL) : Bool := v.f2 != v.f3
def jv (a : Nat) (i : Nat) (v : SL) (x : List Int × List Int × List Int) : List Int × List Int × List Int :=
 (x.1.set (v.f1.toNat * a + v.f0.toNat) (if dn5 v = true then 2 * (i : Int) + 2 else 2 * (i : Int) + 1), x.2.1.set (v.f1.toNat * a + a - 1 - v.f0.toNat) (if dn5 v = true then 2 * (i : Int) + 1 else 2 * (i : Int) + 2), if v.f3 = true then x.2.2.set (v.f1.toNat * a + v.f0.toNat) 1 else x.2.2)
def gH (a : Nat) : List SL → Nat → List Int × List Int × List Int → List Int × List Int × List Int
 | [], _, x => x
 | v :: t, i, x => gH a t (i + 1) (jv a i v x)
theorem oM (a i : Nat) (v : SL) (x : List Int × List Int × List Int) : (jv a i v x).1.length = x.1.length ∧ (jv a i v x).2.1.length = x.2.1.length ∧ (jv a i v x).2.2.length = x.2.2.length := by
 unfold jv
 refine ⟨by simp, by simp, ?_⟩
 by_cases h : v.f3 = true
 ·rw [if_pos h]; simp
 ·rw [if_neg h]
theorem mg (a : Nat) : ∀ (l : List SL) (i : Nat) (x : List Int × List Int × List Int), (gH a l i x).1.length = x.1.length ∧ (gH a l i x).2.1.length = x.2.1.length ∧ (gH a l i x).2.2.length = x.2.2.length
 | [], _, _ => ⟨rfl, rfl, rfl⟩
 | v :: t, i, x => by
  have h1 := mg a t (i + 1) (jv a i v x)
  have h2 := oM a i v x
  exact ⟨h1.1.trans h2.1, h1.2.1.trans h2.2.1, h1.2.2.trans h2.2.2⟩
theorem sJ {A C : Nat} {v : SL} (hA : A ≤ 8) (hC : C ≤ 8) (h0 : 0 ≤ v.f0) (h1 : v.f0 < (A : Int)) (h2 : 0 ≤ v.f1) (h3 : v.f1 < (C : Int)) :
  wrap64 (wrap64 (v.f1 * (A : Int)) + v.f0) = ((v.f1.toNat * A + v.f0.toNat : Nat) : Int) ∧ wrap64 (wrap64 (wrap64 (wrap64 (v.f1 * (A : Int)) + (A : Int)) - 1) - v.f0) = ((v.f1.toNat * A + A - 1 - v.f0.toNat : Nat) : Int) ∧ v.f1.toNat * A + v.f0.toNat < A * C ∧ v.f1.toNat * A + A - 1 - v.f0.toNat < A * C := by
 obtain ⟨f0, f1, f2, f3⟩ := v
 simp only at h0 h1 h2 h3 ⊢
 obtain ⟨x, rfl⟩ := Int.eq_ofNat_of_zero_le h0
 obtain ⟨y, rfl⟩ := Int.eq_ofNat_of_zero_le h2
 have hx : x < A := Int.ofNat_lt.1 h1
 have hy : y < C := Int.ofNat_lt.1 h3
 have e3 : (y : Int) * (A : Int) = ((y * A : Nat) : Int) := (Int.natCast_mul _ _).symm
 have hyA : (y + 1) * A ≤ C * A := Nat.mul_le_mul_right A hy
 rw [Nat.mul_comm C A, Nat.succ_mul] at hyA
 have h64 : A * C ≤ 64 := Nat.mul_le_mul hA hC
 simp only [Int.toNat_natCast]
 rw [e3]
 generalize y * A = q at hyA
 generalize A * C = n at hyA h64
 refine ⟨?_, ?_, by omega, by omega⟩
 ·rw [w64 (x := (q : Int)) (by omega) (by omega), w64 (by omega) (by omega)]; omega
 ·rw [w64 (x := (q : Int)) (by omega) (by omega), w64 (x := (q : Int) + (A : Int)) (by omega) (by omega), w64 (x := (q : Int) + (A : Int) - 1) (by omega) (by omega), w64 (by omega) (by omega)]; omega
theorem si (n : Nat) (hn : n ≤ 64) : 0 ≤ (n : Int) ∧ ((n : Int)).toNat ≤ 35184372088832 ∧ List.replicate ((n : Int)).toNat (0 : Int) = List.replicate n 0 := ⟨by omega, by omega, by rw [Int.toNat_natCast]⟩
theorem wV (i : Nat) (h : i ≤ 64) : wrap64 (wrap64 (2 * (i : Int)) + 2) = 2 * (i : Int) + 2 ∧ wrap64 (wrap64 (2 * (i : Int)) + 1) = 2 * (i : Int) + 1 := by
 constructor
 ·rw [w64 (x := 2 * (i : Int)) (by omega) (by omega), w64 (by omega) (by omega)]
 ·rw [w64 (x := 2 * (i : Int)) (by omega) (by omega), w64 (by omega) (by omega)]
theorem zU (A C : Nat) (hA : A ≤ 8) (hC : C ≤ 8) (l : List SL) (hl : l.length ≤ 64) (hin : ∀ v ∈ l, 0 ≤ v.f0 ∧ v.f0 < (A : Int) ∧ 0 ≤ v.f1 ∧ v.f1 < (C : Int)) : ∀ (d i : Nat), i + d = l.length → ∀ x : List Int × List Int × List Int, x.1.length = A * C → x.2.1.length = A * C → x.2.2.length = A * C → Ev (fun k => aY.l0 k (A : Int) l (i : Int) (A : Int) (C : Int) x.1 x.2.1 x.2.2) ((A : Int), (C : Int), (gH A (l.drop i) i x).1, (gH A (l.drop i) i x).2.1, (gH A (l.drop i) i x).2.2) := by
 intro d
 induction d with
 | zero =>
  intro i hi x _ _ _
  rw [List.drop_of_length_le (by omega), gH]
  exact Ev.step (f := fun _ => some ((A : Int), (C : Int), x.1, x.2.1, x.2.2)) (fun k => by rw [aY.l0, if_neg (by omega)]) (Ev.now _)
 | succ d ih =>
  intro i hi x h1 h2 h3
  have hil : i < l.length := by omega
  rw [List.drop_eq_getElem_cons hil, gH]
  have hg := uh hil
  obtain ⟨v0, v1, v2, v3⟩ := hin _ (List.getElem_mem hil)
  generalize l[i] = v at hg v0 v1 v2 v3
  have hs := oM A i v x
  have st := ih (i + 1) (by omega) (jv A i v x) (hs.1.trans h1) (hs.2.1.trans h2) (hs.2.2.trans h3)
  have g0 : (i : Int) < (l.length : Int) := by omega
  have g1 : 0 ≤ (i : Int) := by omega
  have hi64 : i ≤ 64 := by omega
  have hw := jO i (Nat.lt_of_le_of_lt hi64 (by decide))
  obtain ⟨u2, u1⟩ := wV i hi64
  obtain ⟨c1, c2, c3, c4⟩ := sJ hA hC v0 v1 v2 v3
  have f1 : ((v.f1.toNat * A + v.f0.toNat : Nat) : Int) < (x.1.length : Int) := by rw [h1]; exact Int.ofNat_lt.2 c3
  have f2 : ((v.f1.toNat * A + A - 1 - v.f0.toNat : Nat) : Int) < (x.2.1.length : Int) := by rw [h2]; exact Int.ofNat_lt.2 c4
  have f3 : ((v.f1.toNat * A + v.f0.toNat : Nat) : Int) < (x.2.2.length : Int) := by rw [h3]; exact Int.ofNat_lt.2 c3
  have z1 : 0 ≤ ((v.f1.toNat * A + v.f0.toNat : Nat) : Int) := Int.natCast_nonneg _
  have z2 : 0 ≤ ((v.f1.toNat * A + A - 1 - v.f0.toNat : Nat) : Int) := Int.natCast_nonneg _
  have J : ∀ (U D : Int) (r : Int × Int × List Int × List Int × List Int), Ev (fun k => aY.l0 k (A : Int) l ((i + 1 : Nat) : Int) (A : Int) (C : Int) (x.1.set (v.f1.toNat * A + v.f0.toNat) U) (x.2.1.set (v.f1.toNat * A + A - 1 - v.f0.toNat) D) (if v.f3 = true then x.2.2.set (v.f1.toNat * A + v.f0.toNat) 1 else x.2.2)) r → Ev (fun k => aY.j1 k (A : Int) l (i : Int) U D (A : Int) (C : Int) x.1 x.2.1 x.2.2 v.f0 v.f1 v.f2 v.f3) r := by
   intro U D r hr
   refine Ev.step (fun k => ?_) hr
   rw [aY.j1, c1, c2, if_pos z1, if_pos f1, Int.toNat_natCast, Option.bind_some, if_pos z2, if_pos f2, Int.toNat_natCast, Option.bind_some, hw]
   by_cases h : v.f3 = true
   ·rw [if_pos h, if_pos h, if_pos f3]
   ·rw [if_neg h, if_neg h]
  by_cases hd : dn5 v = true
  ·have e := J (2 * (i : Int) + 2) (2 * (i : Int) + 1) ((A : Int), (C : Int), (gH A (l.drop (i + 1)) (i + 1) (jv A i v x)).1, (gH A (l.drop (i + 1)) (i + 1) (jv A i v x)).2.1, (gH A (l.drop (i + 1)) (i + 1) (jv A i v x)).2.2) (by
    have st' := st
    unfold jv at st' ⊢
    rw [if_pos hd, if_pos hd] at st' ⊢
    exact st')
   refine Ev.step (fun k => ?_) e
   rw [aY.l0, if_pos g0, if_pos g1, hg, iT.f, Option.bind_some, if_pos (show (v.f2 != v.f3) = true from hd), u2, u1]
  ·have e := J (2 * (i : Int) + 1) (2 * (i : Int) + 2) ((A : Int), (C : Int), (gH A (l.drop (i + 1)) (i + 1) (jv A i v x)).1, (gH A (l.drop (i + 1)) (i + 1) (jv A i v x)).2.1, (gH A (l.drop (i + 1)) (i + 1) (jv A i v x)).2.2) (by
    have st' := st
    unfold jv at st' ⊢
    rw [if_neg hd, if_neg hd] at st' ⊢
    exact st')
   refine Ev.step (fun k => ?_) e
   rw [aY.l0, if_pos g0, if_pos g1, hg, iT.f, Option.bind_some, if_neg (show ¬ (v.f2 != v.f3) = true from hd), u2, u1]
def z3_ (n : Nat) : List Int × List Int × List Int := (List.replicate n 0, List.replicate n 0, List.replicate n 0)
theorem qE {a b : Int} {s : ByteArray} (h : kQ a b s) : ∃ (A C : Nat) (l : List SL), A ≤ 8 ∧ C ≤ 8 ∧ 0 < A ∧ 0 < C ∧ a = (A : Int) ∧ b = (C : Int) ∧ l.length = A * C ∧ (∀ v ∈ l, 0 ≤ v.f0 ∧ v.f0 < (A : Int) ∧ 0 ≤ v.f1 ∧ v.f1 < (C : Int)) ∧ Ev (fun k => aT.f k a b s) l ∧ Ev (fun k => aY.f k a b s) (a, b, (gH A l 0 (z3_ (A * C))).1, (gH A l 0 (z3_ (A * C))).2.1, (gH A l 0 (z3_ (A * C))).2.2) := by
 obtain ⟨i, j, hi, hj, ha, hb, hl, hn, h1, h2⟩ := uF h
 have hin := wX (i := i) (j := j) hl hn
 rw [Nat.pow_add] at h2
 have hA : 2 ^ i ≤ 8 := mE (n := 3) hi
 have hC : 2 ^ j ≤ 8 := mE (n := 3) hj
 have hA0 : 0 < 2 ^ i := Nat.pow_pos (by omega)
 have hC0 : 0 < 2 ^ j := Nat.pow_pos (by omega)
 refine ⟨2 ^ i, 2 ^ j, _, hA, hC, hA0, hC0, ha, hb, h2, hin, h1, ?_⟩
 generalize 2 ^ i = A at *
 generalize 2 ^ j = C at *
 generalize iN s.data.toList C A g0 = l at *
 have h64 : A * C ≤ 64 := Nat.mul_le_mul hA hC
 have hab : wrap64 (a * b) = ((A * C : Nat) : Int) := by
  have e : a * b = ((A * C : Nat) : Int) := by rw [ha, hb]; exact (Int.natCast_mul _ _).symm
  rw [e]
  generalize A * C = n at h64
  exact w64 (by omega) (by omega)
 have st := zU A C hA hC l (by omega) hin l.length 0 (by omega) (z3_ (A * C)) (by simp [z3_]) (by simp [z3_]) (by simp [z3_])
 rw [List.drop_zero] at st
 obtain ⟨n0, n1, n2⟩ := si (A * C) h64
 unfold aY.f
 rw [hab]
 refine bB n0 (bB n1 (Ev.bind h1 ?_))
 rw [n2]
 subst ha hb
 exact st
theorem mW {A y x : Nat} (h : x < A) : (y * A + x) / A = y ∧ (y * A + x) % A = x := by
 constructor
 ·rw [Nat.mul_comm, Nat.mul_add_div (by omega), Nat.div_eq_of_lt h, Nat.add_zero]
 ·rw [Nat.mul_comm, Nat.mul_add_mod, Nat.mod_eq_of_lt h]
abbrev cF (A : Nat) (v : SL) : Nat := v.f1.toNat * A + v.f0.toNat
abbrev cB (A : Nat) (v : SL) : Nat := v.f1.toNat * A + A - 1 - v.f0.toNat
def inS (A C : Nat) (v : SL) : Prop := 0 ≤ v.f0 ∧ v.f0 < (A : Int) ∧ 0 ≤ v.f1 ∧ v.f1 < (C : Int)
theorem uT {A C : Nat} {v w : SL} (hA : 0 < A) (hv : inS A C v) (hw : inS A C w) : (cF A v = cF A w → v.f0 = w.f0 ∧ v.f1 = w.f1) ∧ (cB A v = cB A w → v.f0 = w.f0 ∧ v.f1 = w.f1) := by
 obtain ⟨a0, a1, a2, a3⟩ := hv
 obtain ⟨b0, b1, b2, b3⟩ := hw
 have h1 := mW (A := A) (y := v.f1.toNat) (x := v.f0.toNat) (by omega)
 have h2 := mW (A := A) (y := w.f1.toNat) (x := w.f0.toNat) (by omega)
 have h3 := mW (A := A) (y := v.f1.toNat) (x := A - 1 - v.f0.toNat) (by omega)
 have h4 := mW (A := A) (y := w.f1.toNat) (x := A - 1 - w.f0.toNat) (by omega)
 constructor
 ·intro e
  have e' : v.f1.toNat * A + v.f0.toNat = w.f1.toNat * A + w.f0.toNat := e
  rw [e'] at h1
  have q1 := h1.1.symm.trans h2.1
  have q2 := h1.2.symm.trans h2.2
  exact ⟨by omega, by omega⟩
 ·intro e
  have e' : v.f1.toNat * A + (A - 1 - v.f0.toNat) = w.f1.toNat * A + (A - 1 - w.f0.toNat) := by
   have e2 : v.f1.toNat * A + A - 1 - v.f0.toNat = w.f1.toNat * A + A - 1 - w.f0.toNat := e
   omega
  rw [e'] at h3
  have q1 := h3.1.symm.trans h4.1
  have q2 := h3.2.symm.trans h4.2
  exact ⟨by omega, by omega⟩
def Apart (l : List SL) : Prop := l.Pairwise (fun v w => ¬ (v.f0 = w.f0 ∧ v.f1 = w.f1))
theorem mo {A C : Nat} {l : List SL} (hin : ∀ v ∈ l, inS A C v) (h : ∀ x y : Int, 0 ≤ x → x < (A : Int) → 0 ≤ y → y < (C : Int) → l.countP (atL x y) = 1) : Apart l := by
 refine List.pairwise_iff_getElem.2 (fun i j hi hj hij e => ?_)
 obtain ⟨a0, a1, a2, a3⟩ := hin _ (List.getElem_mem hi)
 have hc := h _ _ a0 a1 a2 a3
 have p1 : atL l[i].f0 l[i].f1 l[i] = true := by unfold atL; rw [if_pos rfl]; simp
 have p2 : atL l[i].f0 l[i].f1 l[j] = true := by unfold atL; rw [if_pos e.1.symm, e.2]; simp
 have hs : ∀ p : SL → Bool, l.countP p = (l.take j).countP p + (l.drop j).countP p := fun p => by
  conv => lhs; rw [← List.take_append_drop j l, List.countP_append]
 have hs := hs (atL l[i].f0 l[i].f1)
 have c1 : 0 < (l.take j).countP (atL l[i].f0 l[i].f1) := by
  refine List.countP_pos_iff.2 ⟨l[i], ?_, p1⟩
  have : (l.take j)[i]'(by rw [List.length_take]; omega) = l[i] := List.getElem_take
  rw [← this]
  exact List.getElem_mem _
 have c2 : 0 < (l.drop j).countP (atL l[i].f0 l[i].f1) := by
  refine List.countP_pos_iff.2 ⟨l[j], ?_, p2⟩
  rw [List.drop_eq_getElem_cons hj]
  exact List.mem_cons_self
 omega
theorem wJ {A C : Nat} {l : List SL} (hA : 0 < A) (h : ∀ x y : Int, 0 ≤ x → x < (A : Int) → 0 ≤ y → y < (C : Int) → l.countP (atL x y) = 1) (c : Nat) (hc : c < A * C) : (∃ m, ∃ hm : m < l.length, cF A l[m] = c) ∧ ∃ m, ∃ hm : m < l.length, cB A l[m] = c := by
 have h1 : c / A < C := Nat.div_lt_of_lt_mul hc
 have h2 := Nat.mod_lt c hA
 have h3 := Nat.div_add_mod c A
 rw [Nat.mul_comm] at h3
 have find : ∀ x : Nat, x < A → ∃ m, ∃ hm : m < l.length, l[m].f0 = (x : Int) ∧ l[m].f1 = ((c / A : Nat) : Int) := by
  intro x hx
  have hp := h (x : Int) ((c / A : Nat) : Int) (by omega) (by omega) (Int.natCast_nonneg _) (Int.ofNat_lt.2 h1)
  have hp' : 0 < l.countP (atL (x : Int) ((c / A : Nat) : Int)) := by rw [hp]; exact Nat.one_pos
  obtain ⟨v, hv, hpv⟩ := List.countP_pos_iff.1 hp'
  obtain ⟨m, hm, e⟩ := List.getElem_of_mem hv
  refine ⟨m, hm, ?_⟩
  rw [e]
  unfold atL at hpv
  by_cases z : v.f0 = (x : Int)
  ·rw [if_pos z] at hpv
   exact ⟨z, by simpa using hpv⟩
  ·rw [if_neg z] at hpv; cases hpv
 constructor
 ·obtain ⟨m, hm, e1, e2⟩ := find (c % A) h2
  refine ⟨m, hm, ?_⟩
  show l[m].f1.toNat * A + l[m].f0.toNat = c
  rw [e1, e2, Int.toNat_natCast, Int.toNat_natCast]
  exact h3
 ·obtain ⟨m, hm, e1, e2⟩ := find (A - 1 - c % A) (by omega)
  refine ⟨m, hm, ?_⟩
  show l[m].f1.toNat * A + A - 1 - l[m].f0.toNat = c
  rw [e1, e2, Int.toNat_natCast, Int.toNat_natCast]
  omega
theorem ku {l : List Int} {i c : Nat} {v : Int} : (l.set i v)[c]? = if i = c ∧ c < l.length then some v else l[c]? := by
 rw [List.getElem?_set]
 by_cases h : i = c
 ·subst h
  by_cases h2 : i < l.length
  ·rw [if_pos rfl, if_pos h2, if_pos ⟨rfl, h2⟩]
  ·rw [if_pos rfl, if_neg h2, if_neg (fun z => h2 z.2), List.getElem?_eq_none (by omega)]
 ·rw [if_neg h, if_neg (fun z => h z.1)]
theorem pE (A : Nat) (c : Nat) : ∀ (l : List SL) (i : Nat) (x : List Int × List Int × List Int), ((∀ v ∈ l, cF A v ≠ c) → (gH A l i x).1[c]? = x.1[c]? ∧ (gH A l i x).2.2[c]? = x.2.2[c]?) ∧ ((∀ v ∈ l, cB A v ≠ c) → (gH A l i x).2.1[c]? = x.2.1[c]?)
 | [], _, _ => ⟨fun _ => ⟨rfl, rfl⟩, fun _ => rfl⟩
 | v :: t, i, x => by
  obtain ⟨h1, h2⟩ := pE A c t (i + 1) (jv A i v x)
  constructor
  ·intro h
   have hv : ¬ (v.f1.toNat * A + v.f0.toNat = c) := h v List.mem_cons_self
   obtain ⟨g1, g2⟩ := h1 (fun w hw => h w (List.mem_cons_of_mem _ hw))
   refine ⟨g1.trans ?_, g2.trans ?_⟩
   ·show (x.1.set _ _)[c]? = _
    rw [ku, if_neg (fun z => hv z.1)]
   ·show (if v.f3 = true then x.2.2.set _ 1 else x.2.2)[c]? = _
    by_cases h3 : v.f3 = true
    ·rw [if_pos h3, ku, if_neg (fun z => hv z.1)]
    ·rw [if_neg h3]
  ·intro h
   have hv : ¬ (v.f1.toNat * A + A - 1 - v.f0.toNat = c) := h v List.mem_cons_self
   refine (h2 (fun w hw => h w (List.mem_cons_of_mem _ hw))).trans ?_
   show (x.2.1.set _ _)[c]? = _
   rw [ku, if_neg (fun z => hv z.1)]
theorem xc {A C : Nat} (hA : 0 < A) : ∀ (l : List SL) (i : Nat) (x : List Int × List Int × List Int), (∀ v ∈ l, inS A C v) → Apart l → (∀ v ∈ l, cF A v < x.1.length ∧ cB A v < x.2.1.length ∧ x.2.2[cF A v]? = some 0) → ∀ (m : Nat) (hm : m < l.length), (gH A l i x).1[cF A l[m]]? = some (if dn5 l[m] = true then 2 * ((i + m : Nat) : Int) + 2 else 2 * ((i + m : Nat) : Int) + 1) ∧ (gH A l i x).2.1[cB A l[m]]? = some (if dn5 l[m] = true then 2 * ((i + m : Nat) : Int) + 1 else 2 * ((i + m : Nat) : Int) + 2) ∧ (gH A l i x).2.2[cF A l[m]]? = some (if l[m].f3 = true then 1 else 0)
 | [], _, _, _, _, _, m, hm => absurd hm (by simp)
 | v :: t, i, x, hin, hap, hx, m, hm => by
  obtain ⟨ap1, ap2⟩ := List.pairwise_cons.1 hap
  have hv := hin v List.mem_cons_self
  have ne : ∀ w ∈ t, cF A w ≠ cF A v ∧ cB A w ≠ cB A v := fun w hw => by
   have hw' := hin w (List.mem_cons_of_mem _ hw)
   have ci := uT hA hw' hv
   exact ⟨fun e => ap1 w hw ⟨(ci.1 e).1.symm, (ci.1 e).2.symm⟩, fun e => ap1 w hw ⟨(ci.2 e).1.symm, (ci.2 e).2.symm⟩⟩
  obtain ⟨x1, x2, x3⟩ := hx v List.mem_cons_self
  cases m with
  | zero =>
   have k1 := (pE A (cF A v) t (i + 1) (jv A i v x)).1 (fun w hw => (ne w hw).1)
   have k2 := (pE A (cB A v) t (i + 1) (jv A i v x)).2 (fun w hw => (ne w hw).2)
   refine ⟨k1.1.trans ?_, k2.trans ?_, k1.2.trans ?_⟩
   ·show (x.1.set (cF A v) _)[cF A v]? = _
    rw [ku, if_pos ⟨rfl, x1⟩]
    rfl
   ·show (x.2.1.set (cB A v) _)[cB A v]? = _
    rw [ku, if_pos ⟨rfl, x2⟩]
    rfl
   ·show (if v.f3 = true then x.2.2.set (cF A v) 1 else x.2.2)[cF A v]? = some (if v.f3 = true then 1 else 0)
    by_cases h3 : v.f3 = true
    ·rw [if_pos h3, if_pos h3, ku, if_pos ⟨rfl, by
      rcases Nat.lt_or_ge (cF A v) x.2.2.length with z | z
      ·exact z
      ·rw [List.getElem?_eq_none z] at x3; cases x3⟩]
    ·rw [if_neg h3, if_neg h3]
     exact x3
  | succ m =>
   have hl := oM A i v x
   have ih := xc hA t (i + 1) (jv A i v x) (fun w hw => hin w (List.mem_cons_of_mem _ hw)) ap2 (fun w hw => by
    obtain ⟨y1, y2, y3⟩ := hx w (List.mem_cons_of_mem _ hw)
    refine ⟨by rw [hl.1]; exact y1, by rw [hl.2.1]; exact y2, ?_⟩
    show (if v.f3 = true then x.2.2.set (cF A v) 1 else x.2.2)[cF A w]? = some 0
    by_cases h3 : v.f3 = true
    ·rw [if_pos h3, ku, if_neg (fun z => (ne w hw).1 z.1.symm)]
     exact y3
    ·rw [if_neg h3]
     exact y3) m (by simpa using hm)
   rw [show i + (m + 1) = i + 1 + m by omega]
   exact ih
theorem sH {n c : Nat} (h : c < n) : (List.replicate n (0 : Int))[c]? = some 0 := by simp [h]
theorem lH (n a b : Int) : gF.f n a b = some (decide (a ≤ n ∧ n ≤ b)) := by
 unfold gF.f
 by_cases h : n ≥ a
 ·rw [if_pos h]; simp [show a ≤ n from h]
 ·rw [if_neg h]; simp [show ¬ a ≤ n from h]
theorem kJ (n a b : Int) : fE.f n a b = some (decide (a ≤ n ∧ n ≤ b)) := by
 unfold fE.f
 by_cases h : a ≤ n
 ·rw [if_pos h]; simp [h]
 ·rw [if_neg h]; simp [h]
theorem xh (l : List Int) (m lo hi : Int) (hl : l.length ≤ 35184372088832) (b : Bool) (hb : b = true ↔ (l.length : Int) ≤ m ∧ ∀ x ∈ l, lo ≤ x ∧ x ≤ hi) : Ev (fun k => bZ.f k l m lo hi) b := by
 have loop : ∀ (d i : Nat), i + d = l.length → ∀ b : Bool, (b = true ↔ (l.length : Int) ≤ m ∧ ∀ x ∈ l.drop i, lo ≤ x ∧ x ≤ hi) → Ev (fun k => bZ.l0 k l m lo hi (i : Int)) b := by
  intro d
  induction d with
  | zero =>
   intro i hi' b hb
   have e : b = decide ((l.length : Int) ≤ m) := by
    rw [Bool.eq_iff_iff, hb, decide_eq_true_iff, show l.drop i = [] from List.drop_of_length_le (by omega)]
    exact ⟨fun h => h.1, fun h => ⟨h, fun x hx => by simp at hx⟩⟩
   rw [e]
   exact Ev.step (f := fun _ => some (decide ((l.length : Int) ≤ m))) (fun k => by rw [bZ.l0, if_neg (by omega)]) (Ev.now _)
  | succ d ih =>
   intro i hi' b hb
   refine Ev.step (f := fun k => if decide (lo ≤ rd l (i : Int) ∧ rd l (i : Int) ≤ hi) = true then bZ.l0 k l m lo hi ((i + 1 : Nat) : Int) else some false) (fun k => by rw [bZ.l0, if_pos (by omega), if_pos (by omega), lH, jO i (by omega)]; rfl) ?_
   rw [pq (xs := l) (i := i) (by omega)] at hb
   simp only [List.mem_cons, forall_eq_or_imp] at hb
   by_cases h : lo ≤ rd l (i : Int) ∧ rd l (i : Int) ≤ hi
   ·refine bB (decide_eq_true h) (ih (i + 1) (by omega) b ?_)
    rw [hb]
    exact ⟨fun x => ⟨x.1, x.2.2⟩, fun x => ⟨x.1, h, x.2⟩⟩
   ·have e : b = false := by
     rw [Bool.eq_false_iff]; intro hbt
     exact h (hb.1 hbt).2.1
    rw [e]
    exact eH (by rw [decide_eq_true_iff]; exact h) (Ev.now _)
 have := loop l.length 0 (by omega) b (by rw [List.drop_zero]; exact hb)
 exact Ev.congr (fun k => rfl) this
theorem yQ (l : List Int) (lo hi : Int) : gU.f l lo hi = some (decide (∀ x ∈ l, lo ≤ x ∧ x ≤ hi)) := by
 unfold gU.f
 congr 1
 rw [Bool.eq_iff_iff, decide_eq_true_iff, Bool.not_eq_true', List.any_eq_false]
 unfold jb
 constructor
 ·intro h x hx; simpa using h x hx
 ·intro h x hx; simpa using h x hx
theorem xH (l : List Int) (x : Int) (hl : l.length ≤ 35184372088832) : Ev (fun k => dE.f k l x) (decide (x ∈ l)) := by
 have loop : ∀ (d i : Nat), i + d = l.length → Ev (fun k => dE.l0 k l x (i : Int)) (decide (x ∈ l.drop i)) := by
  intro d
  induction d with
  | zero =>
   intro i hi
   have e : decide (x ∈ l.drop i) = false := by rw [List.drop_of_length_le (by omega)]; simp
   rw [e]
   exact Ev.step (f := fun _ => some false) (fun k => by rw [dE.l0, if_neg (by omega)]) (Ev.now _)
  | succ d ih =>
   intro i hi
   by_cases e : rd l (i : Int) = x
   ·have e1 : decide (x ∈ l.drop i) = true := by rw [pq (by omega)]; simp [e]
    rw [e1]
    exact Ev.step (f := fun _ => some true) (fun k => by rw [dE.l0, if_pos (by omega), if_pos (by omega), if_pos e]) (Ev.now _)
   ·have e1 : decide (x ∈ l.drop i) = decide (x ∈ l.drop (i + 1)) := by rw [pq (by omega)]; simp [Ne.symm e]
    rw [e1]
    exact Ev.step (fun k => by rw [dE.l0, if_pos (by omega), if_pos (by omega), if_neg e, jO i (by omega)]) (ih (i + 1) (by omega))
 have := loop l.length 0 (by omega)
 rw [List.drop_zero] at this
 exact Ev.congr (fun k => rfl) this
theorem zf (a : Int) : (∃ j : Nat, j ≤ 3 ∧ a = ((2 ^ j : Nat) : Int) ∧ bL.f a = some ((j : Int), true) ∧ fC.f a = some true) ∨ (bL.f a = some (0, false) ∧ fC.f a = some false) := by
 by_cases h1 : a = 1
 ·subst h1; exact .inl ⟨0, by decide, by decide, by decide +kernel, by decide +kernel⟩
 by_cases h2 : a = 2
 ·subst h2; exact .inl ⟨1, by decide, by decide, by decide +kernel, by decide +kernel⟩
 by_cases h4 : a = 4
 ·subst h4; exact .inl ⟨2, by decide, by decide, by decide +kernel, by decide +kernel⟩
 by_cases h8 : a = 8
 ·subst h8; exact .inl ⟨3, by decide, by decide, by decide +kernel, by decide +kernel⟩
 ·refine .inr ⟨?_, ?_⟩
  ·unfold bL.f
   rw [if_neg h1, if_neg h2, if_neg h4, if_neg h8]
  ·unfold fC.f
   rw [if_neg h1, if_neg h2, if_neg h4, show (a == 8) = false from beq_false_of_ne h8]
theorem AV (a b : Int) : (∃ i j : Nat, i ≤ 3 ∧ j ≤ 3 ∧ a = ((2 ^ i : Nat) : Int) ∧ b = ((2 ^ j : Nat) : Int) ∧ dJ.f a b = some true ∧ dn.f a b = some true) ∨ (dJ.f a b = some false ∧ dn.f a b = some false) := by
 unfold dJ.f dn.f
 rcases zf a with ⟨i, i1, i2, i3, i4⟩ | ⟨i3, i4⟩
 ·rcases zf b with ⟨j, j1, j2, j3, j4⟩ | ⟨j3, j4⟩
  ·exact .inl ⟨i, j, i1, j1, i2, j2, by rw [i3, j3]; rfl, by rw [i4, j4]; rfl⟩
  ·exact .inr ⟨by rw [i3, j3]; rfl, by rw [i4, j4]; rfl⟩
 ·refine .inr ⟨?_, by rw [i4]; rfl⟩
  rw [i3]
  rcases zf b with ⟨j, j1, j2, j3, j4⟩ | ⟨j3, j4⟩
  ·rw [j3]; rfl
  ·rw [j3]; rfl
theorem xM {i j : Nat} (hi : i ≤ 3) (hj : j ≤ 3) : dn.f ((2 ^ i : Nat) : Int) ((2 ^ j : Nat) : Int) = some true := by
 have h : ∀ i j : Fin 4, dn.f ((2 ^ i.val : Nat) : Int) ((2 ^ j.val : Nat) : Int) = some true := by decide +kernel
 exact h ⟨i, by omega⟩ ⟨j, by omega⟩
theorem ni {α : Type} {g : Nat → Option α} {a b : α} (ha : Ev g a) (hb : Ev g b) : a = b := by
 obtain ⟨n, hn⟩ := ha
 obtain ⟨m, hm⟩ := hb
 exact Option.some.inj ((hn (max n m) (Nat.le_max_left _ _)).symm.trans (hm (max n m) (Nat.le_max_right _ _)))
theorem wh {b c : List Int} (hb : b.length ≤ 1000) (hc : c.length ≤ 1000) : Ev (fun k => au.f k [b, c]) (b ++ c) := by
 have r0 : lL [b, c] 0 = b := rfl
 have r1 : lL [b, c] 1 = c := rfl
 have l2 : (([b, c] : List (List Int)).length : Int) = 2 := rfl
 have g0 : (0 : Int) < (([b, c] : List (List Int)).length : Int) := by rw [l2]; omega
 have g1 : (1 : Int) < (([b, c] : List (List Int)).length : Int) := by rw [l2]; omega
 have w1 : wrap64 (0 + 1) = 1 := by rw [w64 (by omega) (by omega)]; rfl
 have w2 : wrap64 (1 + 1) = 2 := by rw [w64 (by omega) (by omega)]; rfl
 have s1 : wrap64 (0 + (b.length : Int)) = (b.length : Int) := by rw [w64 (by omega) (by omega)]; omega
 have s2 : wrap64 ((b.length : Int) + (c.length : Int)) = ((b.length + c.length : Nat) : Int) := by rw [w64 (by omega) (by omega)]; omega
 have hg : fG.f ([] : List Int) ((b.length + c.length : Nat) : Int) = some [] := by
  unfold fG.f
  rw [if_pos rfl, if_pos (by omega), if_pos (by omega)]
 have a1 : ([] : List Int).length + b.length < 17592186044416 := by rw [List.length_nil]; omega
 have a2 : b.length + c.length < 17592186044416 := by omega
 generalize ([b, c] : List (List Int)) = G at r0 r1 l2 g0 g1
 refine Ev.step (f := fun k => au.l0 k G (b.length : Int) G 2 1) (fun k => ?_) ?_
 ·show au.l0 (k + 1) G 0 G (G.length : Int) 0 = _
  rw [l2, au.l0, r0, s1, w1, if_pos (by decide), if_pos (by decide), if_pos g0, if_neg (by omega)]
 refine Ev.step (f := fun k => au.l0 k G ((b.length + c.length : Nat) : Int) G 2 2) (fun k => ?_) ?_
 ·rw [au.l0, r1, s2, w2, if_pos (by decide), if_pos (by decide), if_pos g1, if_neg (by omega)]
 refine Ev.step (f := fun k => au.l1 k [] G 2 0) (fun k => ?_) ?_
 ·rw [au.l0, if_neg (by decide), hg, l2]; rfl
 refine Ev.step (f := fun k => au.l1 k b G 2 1) (fun k => ?_) ?_
 ·rw [au.l1, r0, w1, if_pos (by decide), if_pos (by decide), if_pos g0, if_pos a1, List.nil_append]
 refine Ev.step (f := fun k => au.l1 k (b ++ c) G 2 2) (fun k => ?_) ?_
 ·rw [au.l1, r1, w2, if_pos (by decide), if_pos (by decide), if_pos g1, if_pos a2]
 exact Ev.step (f := fun _ => some (b ++ c)) (fun k => by rw [au.l1, if_neg (by decide)]) (Ev.now _)
def Run (all : List Int) (first : Int) : Prop := (∀ x ∈ all, first ≤ x ∧ x ≤ first + (all.length : Int) - 1) ∧ all.Nodup
theorem xQ (l : List Int) : (l.mergeSort (fun x y => decide (x ≤ y))).Pairwise (fun x y => x ≤ y) := by
 have h := List.pairwise_mergeSort (le := fun x y : Int => decide (x ≤ y)) (fun a b c h1 h2 => by simp only [decide_eq_true_iff] at *; omega) (fun a b => by simp only [Bool.or_eq_true, decide_eq_true_iff]; omega) l
 exact h.imp (fun h => by simpa using h)
theorem vZ {all s : List Int} {first : Int} (hp : s.Perm all) (hs : s.Pairwise (fun x y => x ≤ y)) (h : Run all first) : ∀ i (hi : i < s.length), s[i] = first + (i : Int) := by
 have hn : s.Nodup := hp.nodup_iff.2 h.2
 have hl : s.length = all.length := hp.length_eq
 have hb : ∀ x ∈ s, first ≤ x ∧ x ≤ first + (s.length : Int) - 1 := fun x hx => by rw [hl]; exact h.1 x (hp.mem_iff.1 hx)
 have hlt : s.Pairwise (fun x y => x < y) := by
  have := hs.and hn
  exact this.imp (fun ⟨a, b⟩ => by omega)
 have step : ∀ i (hi : i + 1 < s.length), s[i] + 1 ≤ s[i + 1] := fun i hi => by
  have := List.pairwise_iff_getElem.1 hlt i (i + 1) (by omega) hi (by omega)
  omega
 have low : ∀ i (hi : i < s.length), first + (i : Int) ≤ s[i] := by
  intro i
  induction i with
  | zero => intro hi; have := (hb _ (List.getElem_mem hi)).1; omega
  | succ i ih => intro hi; have := ih (by omega); have := step i hi; omega
 have up : ∀ d i (hi : i < s.length), i + d + 1 = s.length → s[i] ≤ first + (i : Int) := by
  intro d
  induction d with
  | zero => intro i hi he; have := (hb _ (List.getElem_mem hi)).2; omega
  | succ d ih => intro i hi he; have := ih (i + 1) (by omega) (by omega); have := step i (by omega); omega
 intro i hi
 have h1 := low i hi
 have h2 := up (s.length - 1 - i) i hi (by omega)
 omega
theorem vK {all s : List Int} {first : Int} (hp : s.Perm all) (h : ∀ i (hi : i < s.length), s[i] = first + (i : Int)) : Run all first := by
 have hl : s.length = all.length := hp.length_eq
 refine ⟨fun x hx => ?_, ?_⟩
 ·obtain ⟨i, hi, e⟩ := List.getElem_of_mem (hp.mem_iff.2 hx)
  have := h i hi
  omega
 ·refine hp.nodup_iff.1 ?_
  rw [List.nodup_iff_pairwise_ne]
  refine List.pairwise_iff_getElem.2 (fun i j hi hj hij => ?_)
  rw [h i hi, h j hj]
  omega
theorem xe (a b : Int) : mn a b ≤ a ∧ mn a b ≤ b ∧ (mn a b = a ∨ mn a b = b) := by unfold mn; split <;> omega
theorem vC (a b : Int) (F B H : List Int) (hl : F.length = B.length) (h0 : 0 < F.length) (h1 : F.length ≤ 1000) : ∃ m, Ev (fun k => dh.f k a b F B H) m ∧ m ∈ F ++ B ∧ ∀ x ∈ F ++ B, m ≤ x := by
 have loop : ∀ (d i : Nat), i + d = F.length → ∀ m : Int, m ∈ F ++ B → (∀ j (hj : j < F.length), j < i → m ≤ F[j] ∧ m ≤ B[j]) → ∃ r, Ev (fun k => dh.l0 k m (i : Int) a b F B H) r ∧ r ∈ F ++ B ∧ ∀ j (hj : j < F.length), r ≤ F[j] ∧ r ≤ B[j] := by
  intro d
  induction d with
  | zero =>
   intro i hi m hm hj
   exact ⟨m, Ev.step (f := fun _ => some m) (fun k => by rw [dh.l0, if_neg (by omega)]) (Ev.now _), hm, fun j hj' => hj j hj' (by omega)⟩
  | succ d ih =>
   intro i hi m hm hj
   have hF : i < F.length := by omega
   have hB : i < B.length := by omega
   obtain ⟨p1, p2, p3⟩ := xe F[i] B[i]
   obtain ⟨q1, q2, q3⟩ := xe m (mn F[i] B[i])
   obtain ⟨r, r1, r2, r3⟩ := ih (i + 1) (by omega) (mn m (mn F[i] B[i])) (by
    rcases q3 with e | e
    ·rw [e]; exact hm
    ·rw [e]
     rcases p3 with e | e
     ·rw [e]; exact List.mem_append.2 (.inl (List.getElem_mem hF))
     ·rw [e]; exact List.mem_append.2 (.inr (List.getElem_mem hB))) (fun j hj' hji => by
    by_cases e : j = i
    ·subst e; omega
    ·have := hj j hj' (by omega); omega)
   refine ⟨r, Ev.step (fun k => ?_) r1, r2, r3⟩
   rw [dh.l0, if_pos (by omega), if_pos (by omega), if_pos (by omega), iW hF, iW hB, jO i (by omega)]
 have e0 : rd F (0 : Int) = F[0] := iW (i := 0) h0
 obtain ⟨r, r1, r2, r3⟩ := loop F.length 0 (by omega) F[0] (List.mem_append.2 (.inl (List.getElem_mem h0))) (fun j _ hj => by omega)
 refine ⟨r, ?_, r2, fun x hx => ?_⟩
 ·unfold dh.f
  refine bB (by omega) ?_
  rw [e0]
  exact r1
 ·rcases List.mem_append.1 hx with hx | hx
  ·obtain ⟨j, hj, e⟩ := List.getElem_of_mem hx
   have := (r3 j hj).1
   omega
  ·obtain ⟨j, hj, e⟩ := List.getElem_of_mem hx
   have := (r3 j (by omega)).2
   omega
theorem rF (n : Int) (all : List Int) (first : Int) (hl : all.length ≤ 1000) : ∀ (d i : Nat), i + d = all.length → ∃ v : Bool, Ev (fun k => aK.l0 k n all first (i : Int)) v ∧ (v = true ↔ (∀ j (hj : j < all.length), i ≤ j → first ≤ all[j] ∧ all[j] ≤ wrap64 (wrap64 (first + wrap64 (2 * n)) - 1) ∧ all[j] ∉ all.take j) ∧ 1 ≤ first ∧ first ≤ 1000000000) := by
 intro d
 induction d with
 | zero =>
  intro i hi
  refine ⟨decide (1 ≤ first ∧ first ≤ 1000000000), ?_, ?_⟩
  ·by_cases h1 : first ≥ 1
   ·refine Ev.step (f := fun _ => some (decide (first ≤ 1000000000))) (fun k => by rw [aK.l0, if_neg (by omega), if_pos h1]) ?_
    rw [show decide (1 ≤ first ∧ first ≤ 1000000000) = decide (first ≤ 1000000000) by simp only [decide_eq_decide]; omega]
    exact Ev.now _
   ·refine Ev.step (f := fun _ => some false) (fun k => by rw [aK.l0, if_neg (by omega), if_neg h1]) ?_
    rw [decide_eq_false (by omega)]
    exact Ev.now _
  ·rw [decide_eq_true_iff]
   exact ⟨fun h => ⟨fun j hj hij => by omega, h⟩, fun h => h.2⟩
 | succ d ih =>
  intro i hi
  have hil : i < all.length := by omega
  obtain ⟨v, v1, v2⟩ := ih (i + 1) (by omega)
  have hh := xH (all.take i) all[i] (by rw [List.length_take]; omega)
  by_cases c1 : first ≤ all[i] ∧ all[i] ≤ wrap64 (wrap64 (first + wrap64 (2 * n)) - 1)
  ·by_cases c2 : all[i] ∈ all.take i
   ·refine ⟨false, ?_, ?_⟩
    ·refine Ev.step (fun k => by rw [aK.l0, if_pos (by omega), if_pos (by omega), iW hil, lH]) ?_
     refine Ev.bind (Ev.now _) (bB (decide_eq_true c1) (bB (by omega) ?_))
     rw [Int.toNat_natCast]
     exact Ev.bind hh (bB (decide_eq_true c2) (Ev.now _))
    ·exact ⟨(fun z => by cases z), fun h => ((h.1 i hil (Nat.le_refl _)).2.2 c2).elim⟩
   ·refine ⟨v, ?_, ?_⟩
    ·refine Ev.step (fun k => by rw [aK.l0, if_pos (by omega), if_pos (by omega), iW hil, lH]) ?_
     refine Ev.bind (Ev.now _) (bB (decide_eq_true c1) (bB (by omega) ?_))
     rw [Int.toNat_natCast]
     refine Ev.bind hh (eH (by simpa using c2) ?_)
     rw [jO i (by omega)]
     exact v1
    ·rw [v2]
     constructor
     ·rintro ⟨g, h⟩
      refine ⟨fun j hj hij => ?_, h⟩
      by_cases e : j = i
      ·subst e; exact ⟨c1.1, c1.2, c2⟩
      ·exact g j hj (by omega)
     ·rintro ⟨g, h⟩
      exact ⟨fun j hj hij => g j hj (by omega), h⟩
  ·refine ⟨false, ?_, ?_⟩
   ·refine Ev.step (fun k => by rw [aK.l0, if_pos (by omega), if_pos (by omega), iW hil, lH]) ?_
    exact Ev.bind (Ev.now _) (eH (by simpa using c1) (Ev.now _))
   ·exact ⟨(fun z => by cases z), fun h => (c1 ⟨(h.1 i hil (Nat.le_refl _)).1, (h.1 i hil (Nat.le_refl _)).2.1⟩).elim⟩
theorem rM (s : List Int) (hl : s.length ≤ 1000) (h0 : 0 < s.length) : ∀ (d i : Nat), i + d = s.length → ∃ v : Bool, Ev (fun k => aW.l0 k s s (s.length : Int) (i : Int)) v ∧ (v = true ↔ ∀ j (hj : j < s.length), i ≤ j → (1 ≤ s[0] ∧ s[0] ≤ 1000000000) ∧ s[j] = wrap64 (s[0] + (j : Int))) := by
 intro d
 have e0 : rd s (0 : Int) = s[0] := iW (i := 0) h0
 induction d with
 | zero =>
  intro i hi
  exact ⟨true, Ev.step (f := fun _ => some true) (fun k => by rw [aW.l0, if_neg (by omega)]) (Ev.now _), fun _ j hj hij => by omega, fun _ => rfl⟩
 | succ d ih =>
  intro i hi
  have hil : i < s.length := by omega
  obtain ⟨v, v1, v2⟩ := ih (i + 1) (by omega)
  by_cases c1 : 1 ≤ s[0] ∧ s[0] ≤ 1000000000
  ·by_cases c2 : s[i] = wrap64 (s[0] + (i : Int))
   ·refine ⟨v, ?_, ?_⟩
    ·refine Ev.step (fun k => by rw [aW.l0, if_pos (by omega), if_pos (by omega), if_pos (by omega), if_pos (by omega), e0, kJ, iW hil]) ?_
     refine Ev.bind (Ev.now _) (bB (decide_eq_true c1) (bB c2 ?_))
     rw [jO i (by omega)]
     exact v1
    ·rw [v2]
     constructor
     ·intro g j hj hij
      by_cases e : j = i
      ·subst e; exact ⟨c1, c2⟩
      ·exact g j hj (by omega)
     ·intro g j hj hij
      exact g j hj (by omega)
   ·refine ⟨false, ?_, ?_⟩
    ·refine Ev.step (fun k => by rw [aW.l0, if_pos (by omega), if_pos (by omega), if_pos (by omega), if_pos (by omega), e0, kJ, iW hil]) ?_
     exact Ev.bind (Ev.now _) (bB (decide_eq_true c1) (eH c2 (Ev.now _)))
    ·exact ⟨(fun z => by cases z), fun g => (c2 (g i hil (Nat.le_refl _)).2).elim⟩
  ·refine ⟨false, ?_, ?_⟩
   ·refine Ev.step (fun k => by rw [aW.l0, if_pos (by omega), if_pos (by omega), if_pos (by omega), if_pos (by omega), e0, kJ, iW hil]) ?_
    exact Ev.bind (Ev.now _) (eH (by simpa using c1) (Ev.now _))
   ·exact ⟨(fun z => by cases z), fun g => (c1 (g i hil (Nat.le_refl _)).1).elim⟩
def jA (a b : Int) (F B H : List Int) : Prop := ∃ i j : Nat, i ≤ 3 ∧ j ≤ 3 ∧ a = ((2 ^ i : Nat) : Int) ∧ b = ((2 ^ j : Nat) : Int) ∧ F.length = 2 ^ (i + j) ∧ B.length = 2 ^ (i + j) ∧ H.length = 2 ^ (i + j) ∧ (∀ x ∈ H, 0 ≤ x ∧ x ≤ 1) ∧ ∃ first, 1 ≤ first ∧ first ≤ 1000000000 ∧ first ∈ F ++ B ∧ Run (F ++ B) first
theorem yK {i j : Nat} (h : ((2 ^ i : Nat) : Int) = ((2 ^ j : Nat) : Int)) : i = j := (Nat.pow_right_inj (by omega : 1 < 2)).1 (Int.ofNat.inj h)
theorem qw (l : List Int) : l.Nodup ↔ ∀ j (hj : j < l.length), l[j] ∉ l.take j := by
 rw [List.nodup_iff_pairwise_ne, List.pairwise_iff_getElem]
 constructor
 ·intro h j hj hm
  obtain ⟨i, hi, e⟩ := List.getElem_of_mem hm
  rw [List.length_take] at hi
  rw [List.getElem_take] at e
  exact h i j (by omega) hj (by omega) e
 ·intro h i j hi hj hij e
  refine h j hj ?_
  rw [← e]
  have : (l.take j)[i]'(by rw [List.length_take]; omega) = l[i] := List.getElem_take
  rw [← this]
  exact List.getElem_mem _
theorem xP (F B : List Int) (a b : Int) (H : List Int) (n : Nat) (hF : F.length = n) (hB : B.length = n) (h0 : 0 < n) (h1 : n ≤ 64) : ∃ v : Bool, Ev (fun k => aK.j0 k (n : Int) false a b F B H) v ∧ Ev (fun k => aW.j0 k false a b F B H) v ∧ (v = true ↔ ∃ first, 1 ≤ first ∧ first ≤ 1000000000 ∧ first ∈ F ++ B ∧ Run (F ++ B) first) := by
 have hlen : (F ++ B).length = 2 * n := by rw [List.length_append]; omega
 obtain ⟨m, m1, m2, m3⟩ := vC a b F B H (by omega) (by omega) (by omega)
 obtain ⟨v, v1, v2⟩ := rF (n : Int) (F ++ B) m (by omega) (F ++ B).length 0 (by omega)
 have hp : ((F ++ B).mergeSort (fun x y => decide (x ≤ y))).Perm (F ++ B) := List.mergeSort_perm _ _
 have hs := xQ (F ++ B)
 have hsl : ((F ++ B).mergeSort (fun x y => decide (x ≤ y))).length = 2 * n := by rw [hp.length_eq, hlen]
 obtain ⟨s, hse⟩ : ∃ s, (F ++ B).mergeSort (fun x y => decide (x ≤ y)) = s := ⟨_, rfl⟩
 rw [hse] at hp hs hsl
 obtain ⟨u, u1, u2⟩ := rM s (by omega) (by omega) s.length 0 (by omega)
 have hs0 : s[0]'(by omega) = m := by
  have g1 := m3 _ (hp.mem_iff.1 (List.getElem_mem (l := s) (n := 0) (by omega)))
  obtain ⟨q, hq, e⟩ := List.getElem_of_mem (hp.mem_iff.2 m2)
  have g2 : s[0]'(by omega) ≤ s[q] := by
   rcases Nat.eq_zero_or_pos q with z | z
   ·subst z; omega
   ·exact List.pairwise_iff_getElem.1 hs 0 q (by omega) hq z
  omega
 have main : (1 ≤ m ∧ m ≤ 1000000000 ∧ Run (F ++ B) m) ↔ ∃ first, 1 ≤ first ∧ first ≤ 1000000000 ∧ first ∈ F ++ B ∧ Run (F ++ B) first := by
  constructor
  ·rintro ⟨x, y, z⟩; exact ⟨m, x, y, m2, z⟩
  ·rintro ⟨f, x, y, z, r⟩
   have g1 := m3 f z
   have g2 := (r.1 m m2).1
   obtain rfl : f = m := by omega
   exact ⟨x, y, r⟩
 have hv : v = true ↔ (1 ≤ m ∧ m ≤ 1000000000 ∧ Run (F ++ B) m) := by
  rw [v2]
  have hw : 1 ≤ m → m ≤ 1000000000 → wrap64 (wrap64 (m + wrap64 (2 * (n : Int))) - 1) = m + (((F ++ B).length : Nat) : Int) - 1 := fun g1 g2 => by
   rw [w64 (x := 2 * (n : Int)) (by omega) (by omega), w64 (x := m + 2 * (n : Int)) (by omega) (by omega), w64 (by omega) (by omega), hlen]
   omega
  constructor
  ·rintro ⟨g, g1, g2⟩
   rw [hw g1 g2] at g
   refine ⟨g1, g2, fun x hx => ?_, (qw _).2 (fun j hj => (g j hj (Nat.zero_le _)).2.2)⟩
   obtain ⟨j, hj, e⟩ := List.getElem_of_mem hx
   have := g j hj (Nat.zero_le _)
   exact ⟨by omega, by omega⟩
  ·rintro ⟨g1, g2, g3, g4⟩
   rw [hw g1 g2]
   exact ⟨fun j hj _ => ⟨(g3 _ (List.getElem_mem hj)).1, (g3 _ (List.getElem_mem hj)).2, (qw _).1 g4 j hj⟩, g1, g2⟩
 have hu : u = true ↔ (1 ≤ m ∧ m ≤ 1000000000 ∧ Run (F ++ B) m) := by
  rw [u2]
  constructor
  ·intro g
   have g0 := (g 0 (by omega) (Nat.le_refl _)).1
   rw [hs0] at g0
   refine ⟨g0.1, g0.2, vK hp (fun j hj => ?_)⟩
   have := (g j hj (Nat.zero_le _)).2
   rw [hs0, w64 (by omega) (by omega)] at this
   exact this
  ·rintro ⟨g1, g2, g3⟩ j hj _
   rw [hs0]
   exact ⟨⟨g1, g2⟩, by rw [vZ hp hs g3 j hj, w64 (by omega) (by omega)]⟩
 have huv : u = v := Bool.eq_iff_iff.2 (hu.trans hv.symm)
 subst huv
 refine ⟨u, ?_, ?_, hv.trans main⟩
 ·have ho : gG.f F = some F := by
   unfold gG.f
   simp only [Option.bind_some, List.length_nil, List.nil_append]
   rw [if_pos (by omega)]
  refine Ev.step (fun k => by rw [aK.j0, if_neg (by simp), ho]) ?_
  exact Ev.bind (Ev.now _) (bB (by omega) (Ev.bind m1 v1))
 ·have hso : fD.f (F ++ B) = some s := by
   unfold fD.f
   rw [if_pos (by omega), if_pos (by omega), hse]
  refine Ev.step (fun k => by rw [aW.j0, if_neg (by simp)]) ?_
  refine Ev.bind (wh (by omega) (by omega)) ?_
  rw [hso]
  exact Ev.bind (Ev.now _) u1
theorem kz (a b : Int) (F B H : List Int) (hH : H.length ≤ 1048576) : ∃ v : Bool, Ev (fun k => aK.f k a b F B H) v ∧ Ev (fun k => aW.f k a b F B H) v ∧ (v = true ↔ jA a b F B H) := by
 have len : ∀ l : List Int, dz.f l = some (l.length : Int) := fun l => rfl
 unfold aK.f aW.f
 rcases AV a b with ⟨i, j, i1, j1, ha, hb, s1, s2⟩ | ⟨s1, s2⟩
 ·have h64 : 2 ^ (i + j) ≤ 64 := Nat.le_trans (Nat.pow_le_pow_right (by omega) (show i + j ≤ 6 by omega)) (by decide)
  have hpos : 0 < 2 ^ (i + j) := Nat.pow_pos (by omega)
  have hab : a * b = ((2 ^ (i + j) : Nat) : Int) := by rw [ha, hb, Nat.pow_add]; exact (Int.natCast_mul _ _).symm
  have hok : jA a b F B H → F.length = 2 ^ (i + j) ∧ B.length = 2 ^ (i + j) ∧ H.length = 2 ^ (i + j) ∧ (∀ x ∈ H, 0 ≤ x ∧ x ≤ 1) ∧ ∃ first, 1 ≤ first ∧ first ≤ 1000000000 ∧ first ∈ F ++ B ∧ Run (F ++ B) first := by
   rintro ⟨i', j', _, _, ha', hb', h1, h2, h3, h4, h5⟩
   obtain rfl := yK (ha.symm.trans ha')
   obtain rfl := yK (hb.symm.trans hb')
   exact ⟨h1, h2, h3, h4, h5⟩
  have hko : F.length = 2 ^ (i + j) → B.length = 2 ^ (i + j) → H.length = 2 ^ (i + j) → (∀ x ∈ H, 0 ≤ x ∧ x ≤ 1) → (∃ first, 1 ≤ first ∧ first ≤ 1000000000 ∧ first ∈ F ++ B ∧ Run (F ++ B) first) → jA a b F B H := fun h1 h2 h3 h4 h5 => ⟨i, j, i1, j1, ha, hb, h1, h2, h3, h4, h5⟩
  generalize 2 ^ (i + j) = n at h64 hpos hab hok hko
  have hw : wrap64 (a * b) = (n : Int) := by rw [hab]; exact w64 (by omega) (by omega)
  rw [s1, s2, hw, len, len, len]
  have sb : Ev (fun k => aK.j0 k (n : Int) true a b F B H) false := Ev.step (f := fun _ => some false) (fun k => by rw [aK.j0, if_pos rfl]) (Ev.now _)
  have ib : Ev (fun k => aW.j0 k true a b F B H) false := Ev.step (f := fun _ => some false) (fun k => by rw [aW.j0, if_pos rfl]) (Ev.now _)
  by_cases c1 : (F.length : Int) = (n : Int)
  ·by_cases c2 : (B.length : Int) = (n : Int)
   ·by_cases c3 : (H.length : Int) = (n : Int)
    ·have hwi := xh H 64 0 1 (by omega) (decide (∀ x ∈ H, 0 ≤ x ∧ x ≤ 1)) (by rw [decide_eq_true_iff]; exact ⟨fun h => ⟨by omega, h⟩, fun h => h.2⟩)
     rw [yQ]
     by_cases c4 : ∀ x ∈ H, 0 ≤ x ∧ x ≤ 1
     ·rw [decide_eq_true c4] at hwi ⊢
      obtain ⟨v, v1, v2, v3⟩ := xP F B a b H n (by omega) (by omega) hpos h64
      refine ⟨v, Ev.bind (Ev.now _) (bB rfl (bB c1 (bB c2 (bB c3 (Ev.bind hwi v1))))), Ev.bind (Ev.now _) (bB rfl (Ev.bind (Ev.now _) (bB c1 (Ev.bind (Ev.now _) (bB c2 (Ev.bind (Ev.now _) (bB c3 (Ev.bind (Ev.now _) v2)))))))), ?_⟩
      rw [v3]
      exact ⟨fun h => hko (by omega) (by omega) (by omega) c4 h, fun h => (hok h).2.2.2.2⟩
     ·rw [decide_eq_false c4] at hwi ⊢
      exact ⟨false, Ev.bind (Ev.now _) (bB rfl (bB c1 (bB c2 (bB c3 (Ev.bind hwi sb))))), Ev.bind (Ev.now _) (bB rfl (Ev.bind (Ev.now _) (bB c1 (Ev.bind (Ev.now _) (bB c2 (Ev.bind (Ev.now _) (bB c3 (Ev.bind (Ev.now _) ib)))))))), (fun z => by cases z), fun h => (c4 (hok h).2.2.2.1).elim⟩
    ·exact ⟨false, Ev.bind (Ev.now _) (bB rfl (bB c1 (bB c2 (eH c3 sb)))), Ev.bind (Ev.now _) (bB rfl (Ev.bind (Ev.now _) (bB c1 (Ev.bind (Ev.now _) (bB c2 (Ev.bind (Ev.now _) (eH c3 ib))))))), (fun z => by cases z), fun h => (c3 (by rw [(hok h).2.2.1])).elim⟩
   ·exact ⟨false, Ev.bind (Ev.now _) (bB rfl (bB c1 (eH c2 sb))), Ev.bind (Ev.now _) (bB rfl (Ev.bind (Ev.now _) (bB c1 (Ev.bind (Ev.now _) (eH c2 ib))))), (fun z => by cases z), fun h => (c2 (by rw [(hok h).2.1])).elim⟩
  ·exact ⟨false, Ev.bind (Ev.now _) (bB rfl (eH c1 sb)), Ev.bind (Ev.now _) (bB rfl (Ev.bind (Ev.now _) (eH c1 ib))), (fun z => by cases z), fun h => (c1 (by rw [(hok h).1])).elim⟩
 ·rw [s1, s2]
  have sb : Ev (fun k => aK.j0 k (wrap64 (a * b)) true a b F B H) false := Ev.step (f := fun _ => some false) (fun k => by rw [aK.j0, if_pos rfl]) (Ev.now _)
  refine ⟨false, Ev.bind (Ev.now _) (eH (by simp) sb), Ev.bind (Ev.now _) (eH (by simp) (Ev.now _)), (fun z => by cases z), ?_⟩
  rintro ⟨i, j, i1, j1, ha, hb, _⟩
  rw [ha, hb, xM i1 j1] at s2
  cases s2
theorem pQ {l : List SL} (a : Bool) (h : l.length ≤ 64) : dS.f l a = some (jP (!a) l) := by
 unfold dS.f
 rw [if_pos (by omega)]
 have e : dS.jy a = bQ.jy (!a) := by funext x; cases a <;> rfl
 rw [e]; rfl
theorem rP {b c : List SL} (hb : b.length ≤ 64) (hc : c.length ≤ 64) : Ev (fun k => bK.f k [b, c]) (b ++ c) := by
 have r0 : ek [b, c] 0 = b := rfl
 have r1 : ek [b, c] 1 = c := rfl
 have l2 : (([b, c] : List (List SL)).length : Int) = 2 := rfl
 have g0 : (0 : Int) < (([b, c] : List (List SL)).length : Int) := by rw [l2]; omega
 have g1 : (1 : Int) < (([b, c] : List (List SL)).length : Int) := by rw [l2]; omega
 have w1 : wrap64 (0 + 1) = 1 := by rw [w64 (by omega) (by omega)]; rfl
 have w2 : wrap64 (1 + 1) = 2 := by rw [w64 (by omega) (by omega)]; rfl
 have s1 : wrap64 (0 + (b.length : Int)) = (b.length : Int) := by rw [w64 (by omega) (by omega)]; omega
 have s2 : wrap64 ((b.length : Int) + (c.length : Int)) = ((b.length + c.length : Nat) : Int) := by rw [w64 (by omega) (by omega)]; omega
 have hg : iV.f ([] : List SL) ((b.length + c.length : Nat) : Int) = some [] := by
  unfold iV.f
  rw [if_pos rfl, if_pos (nn _), if_pos (by omega)]
 have a1 : ([] : List SL).length + b.length < 5864062014805 := by rw [List.length_nil]; omega
 have a2 : b.length + c.length < 5864062014805 := by omega
 generalize ([b, c] : List (List SL)) = G at r0 r1 l2 g0 g1
 refine Ev.step (f := fun k => bK.l0 k G (b.length : Int) G 2 1) (fun k => ?_) ?_
 ·show bK.l0 (k + 1) G 0 G (G.length : Int) 0 = _
  rw [l2, bK.l0, r0, s1, w1, if_pos (by decide), if_pos (by decide), if_pos g0, if_neg (by omega)]
 refine Ev.step (f := fun k => bK.l0 k G ((b.length + c.length : Nat) : Int) G 2 2) (fun k => ?_) ?_
 ·rw [bK.l0, r1, s2, w2, if_pos (by decide), if_pos (by decide), if_pos g1, if_neg (by omega)]
 refine Ev.step (f := fun k => bK.l1 k [] G 2 0) (fun k => ?_) ?_
 ·rw [bK.l0, if_neg (by decide), hg, l2]; rfl
 refine Ev.step (f := fun k => bK.l1 k b G 2 1) (fun k => ?_) ?_
 ·rw [bK.l1, r0, w1, if_pos (by decide), if_pos (by decide), if_pos g0, if_pos a1, List.nil_append]
 refine Ev.step (f := fun k => bK.l1 k (b ++ c) G 2 2) (fun k => ?_) ?_
 ·rw [bK.l1, r1, w2, if_pos (by decide), if_pos (by decide), if_pos g1, if_pos a2]
 exact Ev.step (f := fun _ => some (b ++ c)) (fun k => by rw [bK.l1, if_neg (by decide)]) (Ev.now _)
theorem qx {c : Nat → Nat → Option (List SL)} {f : Nat → List SL} : ∀ (n x : Nat), (∀ i, x ≤ i → i < x + n → Ev (fun k => c k i) (f i)) → Ev (fun k => kP (c k) n x ((List.range x).map f)) ((List.range (x + n)).map f)
 | 0, x, _ => Ev.now _
 | n + 1, x, h => by
  refine Ev.bind (h x (by omega) (by omega)) ?_
  have := qx (c := c) (f := f) n (x + 1) (fun i h1 h2 => h i (by omega) (by omega))
  rw [jC, show x + (n + 1) = x + 1 + n by omega]
  exact this
theorem oW {c : Nat → Nat → Option (List (List SL))} {f : Nat → List (List SL)} : ∀ (n x : Nat), (∀ i, x ≤ i → i < x + n → Ev (fun k => c k i) (f i)) → Ev (fun k => kX (c k) n x ((List.range x).map f)) ((List.range (x + n)).map f)
 | 0, x, _ => Ev.now _
 | n + 1, x, h => by
  refine Ev.bind (h x (by omega) (by omega)) ?_
  have := oW (c := c) (f := f) n (x + 1) (fun i h1 h2 => h i (by omega) (by omega))
  rw [jC, show x + (n + 1) = x + 1 + n by omega]
  exact this
theorem qd {H W : Nat} {g : Nat → Nat → List SL} (a : Bool) (h w x y : Nat) (s o : Bool) {Y X : Nat} (hY : (if a = true then jL h y s o else y) = Y) (hX : (if a = true then x else jL w x s o) = X) (h1 : Y < H) (h2 : X < W) : sK (fH H W g) a h w x y s o = some (g Y X) := by
 unfold sK
 rw [hY, hX, if_pos (by rw [iO]; exact h1), nQ h1, if_pos (by rw [jK]; exact h2), zb h2]
theorem tF {H W : Nat} {g : Nat → Nat → List SL} (f : Bool) (hH : 0 < H ∧ H ≤ 8) (hW : W ≤ 4) (hg : ∀ y x, y < H → x < 2 * W → (g y x).length ≤ 64) : Ev (fun k => eG.f k (fH H (2 * W) g) false f) (fH H W (iA f W g)) := by
 have hl : ((fH H (2 * W) g).getD 0 []).length = 2 * W := by rw [nQ hH.1, jK]
 have hc : 0 < (fH H (2 * W) g).length ∧ (fH H (2 * W) g).length ≤ 1000 ∧ ((fH H (2 * W) g).getD 0 []).length ≤ 1000 := by rw [iO, hl]; omega
 unfold eG.f
 refine bB hc ?_
 rw [hl, iO, show hvH false H = H from rfl, show hvW false (2 * W) = W from by unfold hvW; simp]
 have key := oW (c := fun k y => kP (fun x => jM k (fH H (2 * W) g) false f H W y x) W 0 []) (f := fun y => (List.range W).map (iA f W g y)) H 0 (fun y _ hy => by
  have hr := qx (c := fun k x => jM k (fH H (2 * W) g) false f H W y x) (f := iA f W g y) W 0 (fun x _ hx => by
   have b1 := hg y (ovr f W x) (by omega) (by unfold ovr; split <;> omega)
   have b2 := hg y (und f W x) (by omega) (by unfold und; split <;> omega)
   unfold jM
   rw [qd (H := H) (W := 2 * W) (g := g) false H W x y (!f) true (Y := y) (X := ovr f W x) rfl (by cases f <;> simp [jL, ovr] <;> omega) (by omega) (by unfold ovr; split <;> omega),
    qd (H := H) (W := 2 * W) (g := g) false H W x y f false (Y := y) (X := und f W x) rfl (by cases f <;> simp [jL, und] <;> omega) (by omega) (by unfold und; split <;> omega)]
   simp only [Option.bind_some]
   rw [pQ false b1]
   simp only [Option.bind_some]
   exact rP (by rw [ja]; exact b1) b2)
  rw [Nat.zero_add] at hr
  exact hr)
 rw [Nat.zero_add] at key
 exact key
theorem rf {H W : Nat} {g : Nat → Nat → List SL} (f : Bool) (hH : 0 < H ∧ H ≤ 4) (hW : W ≤ 8) (hg : ∀ y x, y < 2 * H → x < W → (g y x).length ≤ 64) : Ev (fun k => eG.f k (fH (2 * H) W g) true f) (fH H W (ic f H g)) := by
 have hl : ((fH (2 * H) W g).getD 0 []).length = W := by rw [nQ (by omega), jK]
 have hc : 0 < (fH (2 * H) W g).length ∧ (fH (2 * H) W g).length ≤ 1000 ∧ ((fH (2 * H) W g).getD 0 []).length ≤ 1000 := by rw [iO, hl]; omega
 unfold eG.f
 refine bB hc ?_
 rw [hl, iO, show hvW true W = W from rfl, show hvH true (2 * H) = H from by unfold hvH; simp]
 have key := oW (c := fun k y => kP (fun x => jM k (fH (2 * H) W g) true f H W y x) W 0 []) (f := fun y => (List.range W).map (ic f H g y)) H 0 (fun y _ hy => by
  have hr := qx (c := fun k x => jM k (fH (2 * H) W g) true f H W y x) (f := ic f H g y) W 0 (fun x _ hx => by
   have b1 := hg (ovr f H y) x (by unfold ovr; split <;> omega) (by omega)
   have b2 := hg (und f H y) x (by unfold und; split <;> omega) (by omega)
   unfold jM
   rw [qd (H := 2 * H) (W := W) (g := g) true H W x y (!f) true (Y := ovr f H y) (X := x) (by cases f <;> simp [jL, ovr] <;> omega) rfl (by unfold ovr; split <;> omega) (by omega),
    qd (H := 2 * H) (W := W) (g := g) true H W x y f false (Y := und f H y) (X := x) (by cases f <;> simp [jL, und] <;> omega) rfl (by unfold und; split <;> omega) (by omega)]
   simp only [Option.bind_some]
   rw [pQ true b1]
   simp only [Option.bind_some]
   exact rP (by rw [ja]; exact b1) b2)
  rw [Nat.zero_add] at hr
  exact hr)
 rw [Nat.zero_add] at key
 exact key
theorem tT {H W : Nat} (s : ByteArray) (hH : H ≤ 8) (hW : W ≤ 8) (r : List SL) (hr : Ev (fun k => ax.l2 k s (fH H W g0) (s.size : Int) 0) r) : Ev (fun k => ax.f k (W : Int) (H : Int) s) r := by
 have hin : ∀ (y : Nat) (a5 : List (List (List SL))) (r : List SL), a5.length ≤ 8 → Ev (fun k => ax.l0 k (W : Int) s (a5 ++ [(List.range W).map (g0 y)]) (H : Int) (wrap64 ((y : Int) + 1))) r → ∀ d x : Nat, x + d = W → Ev (fun k => ax.l1 k (W : Int) s a5 (y : Int) ((List.range x).map (g0 y)) (H : Int) (y : Int) (W : Int) (x : Int)) r := by
  intro y a5 r h5 hr d
  induction d with
  | zero =>
   intro x hx
   obtain rfl : x = W := by omega
   have hn : ¬ (x : Int) < (x : Int) := Int.lt_irrefl _
   exact Ev.step (fun k => by rw [ax.l1, if_neg hn, if_pos (qW h5)]) hr
  | succ d ih =>
   intro x hx
   have ih' := ih (x + 1) (by omega)
   have h8 : ((List.range x).map (g0 y)).length ≤ 8 := by rw [jK]; omega
   have f1 : (x : Int) < (W : Int) := ltc (by omega)
   rw [← jC, ← jO x (by omega)] at ih'
   exact Ev.step (fun k => by rw [ax.l1, if_pos f1, if_pos (qW h8)]; rfl) ih'
 have key : ∀ d y : Nat, y + d = H → Ev (fun k => ax.l0 k (W : Int) s ((List.range y).map fun y => (List.range W).map (g0 y)) (H : Int) (y : Int)) r := by
  intro d
  induction d with
  | zero =>
   intro y hy
   obtain rfl : y = H := by omega
   have hn : ¬ (y : Int) < (y : Int) := Int.lt_irrefl _
   exact Ev.step (fun k => by rw [ax.l0, if_neg hn]; rfl) hr
  | succ d ih =>
   intro y hy
   have ih' := ih (y + 1) (by omega)
   rw [← jC, ← jO y (by omega)] at ih'
   have f1 : (y : Int) < (H : Int) := ltc (by omega)
   have h := hin y _ _ (by rw [List.length_map, List.length_range]; omega) ih' W 0 (by omega)
   exact Ev.step (fun k => by rw [ax.l0, if_pos f1]; rfl) h
 exact key H 0 (by omega)
theorem lS {s : ByteArray} {pos : Nat} {G G' : List (List (List SL))} {r : List SL} (a f : Bool) (hp : pos < s.size) (hp2 : pos < 1000) (hb : (bt s (pos : Int) = 84 ∧ a = true ∧ f = true) ∨ (bt s (pos : Int) = 76 ∧ a = false ∧ f = true) ∨ (bt s (pos : Int) = 82 ∧ a = false ∧ f = false) ∨ (bt s (pos : Int) = 66 ∧ a = true ∧ f = false)) (h1 : Ev (fun k => eG.f k G a f) G') (h2 : Ev (fun k => ax.l2 k s G' (s.size : Int) ((pos + 1 : Nat) : Int)) r) : Ev (fun k => ax.l2 k s G (s.size : Int) (pos : Int)) r := by
 have f1 : (pos : Int) < (s.size : Int) := ltc hp
 have e1 := jO pos (by omega)
 refine Ev.step (f := fun k => (eG.f k G a f).bind fun t => ax.l2 k s t (s.size : Int) ((pos + 1 : Nat) : Int)) (fun k => ?_) (Ev.bind h1 h2)
 rw [ax.l2, if_pos f1, if_pos (nn _), if_pos f1, e1]
 rcases hb with ⟨hb, rfl, rfl⟩ | ⟨hb, rfl, rfl⟩ | ⟨hb, rfl, rfl⟩ | ⟨hb, rfl, rfl⟩
 ·rw [hb, if_pos rfl, if_neg (by decide)]; rfl
 ·rw [hb, if_neg (by decide), if_pos rfl]; rfl
 ·rw [hb, if_neg (by decide), if_neg (by decide)]; rfl
 ·rw [hb, if_neg (by decide), if_neg (by decide)]; rfl
theorem uz (s : ByteArray) (hs : s.size ≤ 6) : ∀ (d pos i j C : Nat) (g : Nat → Nat → List SL), pos + d = s.size → (∀ x ∈ s.data.toList.drop pos, ([76, 82, 84, 66] : List UInt8).contains x = true) → lrc (s.data.toList.drop pos) = i → d = i + j → i ≤ 3 → j ≤ 3 → (∀ y x, y < 2 ^ j → x < 2 ^ i → (g y x).length = C) → C * 2 ^ d ≤ 64 →
  Ev (fun k => aT.l0 k s (fH (2 ^ j) (2 ^ i) g) (pos : Int)) (iN (s.data.toList.drop pos) (2 ^ j) (2 ^ i) g) ∧ Ev (fun k => ax.l2 k s (fH (2 ^ j) (2 ^ i) g) (s.size : Int) (pos : Int)) (iN (s.data.toList.drop pos) (2 ^ j) (2 ^ i) g) ∧ (iN (s.data.toList.drop pos) (2 ^ j) (2 ^ i) g).length = C * 2 ^ d := by
 have hz : s.size = s.data.toList.length := by simp
 intro d
 induction d with
 | zero =>
  intro pos i j C g hp hall hl hd hi hj hC h64
  obtain rfl : i = 0 := by omega
  obtain rfl : j = 0 := by omega
  rw [List.drop_of_length_le (by omega), iN]
  have n1 : ¬ (pos : Int) < (s.size : Int) := BM (by omega)
  have a1 : (0 : Int) < ((fH (2 ^ 0) (2 ^ 0) g).length : Int) := by rw [iO]; decide
  have a2 : bI (fH (2 ^ 0) (2 ^ 0) g) 0 = [g 0 0] := rfl
  have a3 : ek [g 0 0] 0 = g 0 0 := rfl
  have a4 : (0 : Int) < (([g 0 0] : List (List SL)).length : Int) := by show (0 : Int) < 1; decide
  refine ⟨Ev.step (f := fun _ => some (g 0 0)) (fun k => ?_) (Ev.now _), Ev.step (f := fun _ => some (g 0 0)) (fun k => ?_) (Ev.now _), by rw [hC 0 0 (by decide) (by decide)]; omega⟩
  ·rw [aT.l0, if_neg n1, if_pos a1, a2, if_pos a4, a3]
  ·rw [ax.l2, if_neg n1, if_pos a1, a2, if_pos a4, a3]
 | succ d ih =>
  intro pos i j C g hp hall hl hd hi hj hC h64
  have hil : pos < s.data.toList.length := by omega
  have hdr := List.drop_eq_getElem_cons hil
  have hb := uk s pos (by omega)
  rw [hdr] at hall hl ⊢
  have hc := hall _ List.mem_cons_self
  have hall' := fun x hx => hall x (List.mem_cons_of_mem _ hx)
  rw [mI] at hl
  generalize s.data.toList[pos] = c at hb hc hl ⊢
  have hCle : C ≤ 32 := by
   have h1 : 1 ≤ 2 ^ d := Nat.one_le_two_pow
   rw [Nat.pow_succ] at h64
   have h2 : C * 2 ≤ C * (2 ^ d * 2) := Nat.mul_le_mul_left _ (by omega)
   omega
  have h64' : (C + C) * 2 ^ d ≤ 64 := by rw [Nat.pow_succ] at h64; rw [Nat.add_mul, ← Nat.two_mul, ← Nat.mul_assoc, Nat.mul_comm 2 C, Nat.mul_assoc, Nat.mul_comm 2]; exact h64
  have hlen' : (C + C) * 2 ^ d = C * 2 ^ (d + 1) := by rw [Nat.pow_succ, Nat.add_mul, ← Nat.two_mul, ← Nat.mul_assoc, Nat.mul_comm 2 C, Nat.mul_assoc, Nat.mul_comm 2]
  by_cases h1 : c = 76 ∨ c = 82
  ·rw [if_pos h1] at hl
   obtain ⟨i, rfl⟩ : ∃ q, i = q + 1 := ⟨i - 1, by omega⟩
   have hW : 2 ^ (i + 1) = 2 * 2 ^ i := by rw [Nat.pow_succ, Nat.mul_comm]
   have hW4 : 2 ^ i ≤ 4 := mE (n := 2) (by omega)
   have hH8 : 2 ^ j ≤ 8 := mE (n := 3) hj
   have hH0 : 0 < 2 ^ j := Nat.pow_pos (by omega)
   rw [iN, if_pos h1, hW, Nat.mul_div_cancel_left _ (by omega : 0 < 2)]
   have hg : ∀ y x, y < 2 ^ j → x < 2 * 2 ^ i → (g y x).length ≤ 64 := fun y x hy hx => by rw [hC y x hy (by rw [hW]; exact hx)]; omega
   have hC' : ∀ y x, y < 2 ^ j → x < 2 ^ i → (iA (c == 76) (2 ^ i) g y x).length = C + C := fun y x hy hx => by
    unfold iA
    rw [List.length_append, ja, hC y _ hy (by rw [hW]; unfold ovr; split <;> omega), hC y _ hy (by rw [hW]; unfold und; split <;> omega)]
   obtain ⟨j1, j2, j3⟩ := ih (pos + 1) i j (C + C) (iA (c == 76) (2 ^ i) g) (by omega) hall' (by omega) (by omega) (by omega) hj hC' h64'
   have a1 := uE (bt s (pos : Int)) hH8 hW4 hg
   have a2 := tF (c == 76) ⟨hH0, hH8⟩ hW4 hg
   rcases h1 with rfl | rfl
   ·have hb' : bt s (pos : Int) = 76 := hb
    refine ⟨ky (by omega) (by omega) (.inl hb') a1 ?_, lS false true (by omega) (by omega) (.inr (.inl ⟨hb', rfl, rfl⟩)) a2 j2, j3.trans hlen'⟩
    rw [hb']; exact j1
   ·have hb' : bt s (pos : Int) = 82 := hb
    refine ⟨ky (by omega) (by omega) (.inr hb') a1 ?_, lS false false (by omega) (by omega) (.inr (.inr (.inl ⟨hb', rfl, rfl⟩))) a2 j2, j3.trans hlen'⟩
    rw [hb']; exact j1
  ·rw [if_neg h1] at hl
   have hdj : lrc (s.data.toList.drop (pos + 1)) ≤ d := by
    have := sZ (s.data.toList.drop (pos + 1))
    rw [List.length_drop] at this
    omega
   have h2 : c = 84 ∨ c = 66 := by
    simp only [List.contains_cons, List.contains_nil, Bool.or_false, Bool.or_eq_true, beq_iff_eq] at hc
    rcases hc with e | e | e | e
    ·exact (h1 (.inl e)).elim
    ·exact (h1 (.inr e)).elim
    ·exact .inl e
    ·exact .inr e
   obtain ⟨j, rfl⟩ : ∃ q, j = q + 1 := ⟨j - 1, by omega⟩
   have hH : 2 ^ (j + 1) = 2 * 2 ^ j := by rw [Nat.pow_succ, Nat.mul_comm]
   have hH4 : 2 ^ j ≤ 4 := mE (n := 2) (by omega)
   have hW8 : 2 ^ i ≤ 8 := mE (n := 3) hi
   have hH0 : 0 < 2 ^ j := Nat.pow_pos (by omega)
   rw [iN, if_neg h1, hH, Nat.mul_div_cancel_left _ (by omega : 0 < 2)]
   have hg : ∀ y x, y < 2 * 2 ^ j → x < 2 ^ i → (g y x).length ≤ 64 := fun y x hy hx => by rw [hC y x (by rw [hH]; exact hy) hx]; omega
   have hC' : ∀ y x, y < 2 ^ j → x < 2 ^ i → (ic (c == 84) (2 ^ j) g y x).length = C + C := fun y x hy hx => by
    unfold ic
    rw [List.length_append, ja, hC _ x (by rw [hH]; unfold ovr; split <;> omega) hx, hC _ x (by rw [hH]; unfold und; split <;> omega) hx]
   obtain ⟨j1, j2, j3⟩ := ih (pos + 1) i j (C + C) (ic (c == 84) (2 ^ j) g) (by omega) hall' (by omega) (by omega) hi (by omega) hC' h64'
   have a1 := sw (bt s (pos : Int)) hH4 hW8 hg
   have a2 := rf (c == 84) ⟨hH0, hH4⟩ hW8 hg
   rcases h2 with rfl | rfl
   ·have hb' : bt s (pos : Int) = 84 := hb
    refine ⟨kv (by omega) (by omega) (.inl hb') a1 ?_, lS true true (by omega) (by omega) (.inl ⟨hb', rfl, rfl⟩) a2 j2, j3.trans hlen'⟩
    rw [hb']; exact j1
   ·have hb' : bt s (pos : Int) = 66 := hb
    refine ⟨kv (by omega) (by omega) (.inr hb') a1 ?_, lS true false (by omega) (by omega) (.inr (.inr (.inr ⟨hb', rfl, rfl⟩))) a2 j2, j3.trans hlen'⟩
    rw [hb']; exact j1
theorem wm {a b : Int} {s : ByteArray} {i j : Nat} (hi : i ≤ 3) (hj : j ≤ 3) (ha : a = ((2 ^ i : Nat) : Int)) (hb : b = ((2 ^ j : Nat) : Int)) (hall : ∀ x ∈ s.data.toList, ([76, 82, 84, 66] : List UInt8).contains x = true) (hl : lrc s.data.toList = i) (hn : s.data.toList.length = i + j) :
  Ev (fun k => aT.f k a b s) (iN s.data.toList (2 ^ j) (2 ^ i) g0) ∧ Ev (fun k => ax.f k a b s) (iN s.data.toList (2 ^ j) (2 ^ i) g0) ∧ (iN s.data.toList (2 ^ j) (2 ^ i) g0).length = 2 ^ (i + j) := by
 have hz : s.size = s.data.toList.length := by simp
 subst ha hb
 have hW8 : 2 ^ i ≤ 8 := mE (n := 3) hi
 have hH8 : 2 ^ j ≤ 8 := mE (n := 3) hj
 obtain ⟨h1, h2, h3⟩ := uz s (by omega) s.size 0 i j 1 g0 (by omega) hall hl (by omega) hi hj (fun _ _ _ _ => rfl) (by rw [Nat.one_mul]; exact mE (n := 6) (by omega))
 rw [List.drop_zero] at h1 h2 h3
 refine ⟨?_, tT s hH8 hW8 _ h2, ?_⟩
 ·unfold aT.f
  exact Ev.bind (nV hH8 hW8) h1
 ·rw [h3, hz, hn, Nat.one_mul]
theorem jE (a : Int) : (∃ j : Nat, j ≤ 3 ∧ a = ((2 ^ j : Nat) : Int) ∧ bL.f a = some ((j : Int), true) ∧ fC.f a = some true ∧ Ev (fun k => bY.f k a) (j : Int)) ∨ (bL.f a = some (0, false) ∧ fC.f a = some false) := by
 by_cases h1 : a = 1
 ·subst h1; exact .inl ⟨0, by decide, by decide, by decide +kernel, by decide +kernel, Ev.of (bY.mono _) (k := 10) (by decide +kernel)⟩
 by_cases h2 : a = 2
 ·subst h2; exact .inl ⟨1, by decide, by decide, by decide +kernel, by decide +kernel, Ev.of (bY.mono _) (k := 10) (by decide +kernel)⟩
 by_cases h4 : a = 4
 ·subst h4; exact .inl ⟨2, by decide, by decide, by decide +kernel, by decide +kernel, Ev.of (bY.mono _) (k := 10) (by decide +kernel)⟩
 by_cases h8 : a = 8
 ·subst h8; exact .inl ⟨3, by decide, by decide, by decide +kernel, by decide +kernel, Ev.of (bY.mono _) (k := 10) (by decide +kernel)⟩
 ·refine .inr ⟨?_, ?_⟩
  ·unfold bL.f
   rw [if_neg h1, if_neg h2, if_neg h4, if_neg h8]
  ·unfold fC.f
   rw [if_neg h1, if_neg h2, if_neg h4, show (a == 8) = false from beq_false_of_ne h8]
theorem qG (cs : List UInt8) : ∀ l : List UInt8, Go.Lib.trimS l cs = [] ↔ ∀ b ∈ l, cs.contains b = true := by
 have dw : ∀ l : List UInt8, l.dropWhile (cs.contains ·) = [] ↔ ∀ b ∈ l, cs.contains b = true := by
  intro l
  induction l with
  | nil => simp
  | cons a t ih =>
   rw [List.dropWhile_cons]
   by_cases h : cs.contains a = true
   ·rw [if_pos h, ih]
    exact ⟨fun g b hb => by rcases List.mem_cons.1 hb with rfl | hb; exact h; exact g b hb, fun g b hb => g b (List.mem_cons_of_mem _ hb)⟩
   ·rw [if_neg h]
    exact ⟨fun g => (List.cons_ne_nil _ _ g).elim, fun g => absurd (g a List.mem_cons_self) h⟩
 intro l
 unfold Go.Lib.trimS Go.Lib.trimLeftS
 rw [dw]
 unfold Go.Lib.trimRightS
 constructor
 ·intro g
  have e : l.reverse.dropWhile (cs.contains ·) = [] := by
   cases hd : l.reverse.dropWhile (cs.contains ·) with
   | nil => rfl
   | cons a t =>
    have h1 := List.head?_dropWhile_not (cs.contains ·) l.reverse
    rw [hd] at h1 g
    have h2 := g a (by simp)
    simp only [List.head?_cons] at h1
    rw [h2] at h1
    cases h1
  intro b hb
  exact (dw l.reverse).1 e b (List.mem_reverse.2 hb)
 ·intro g
  have e := (dw l.reverse).2 (fun b hb => g b (List.mem_reverse.1 hb))
  rw [e]
  intro b hb
  simp at hb
theorem tN (a b : Int) (s : ByteArray) (hs : s.size ≤ 1048576) : ∃ v : Bool, Ev (fun k => bu.f k a b s) v ∧ Ev (fun k => dK.f k a b s) v ∧ (v = true → ∃ i j : Nat, i ≤ 3 ∧ j ≤ 3 ∧ a = ((2 ^ i : Nat) : Int) ∧ b = ((2 ^ j : Nat) : Int) ∧ (∀ x ∈ s.data.toList, ([76, 82, 84, 66] : List UInt8).contains x = true) ∧ lrc s.data.toList = i ∧ s.data.toList.length = i + j) := by
 have hz : s.size = s.data.toList.length := by simp
 have hle := sZ s.data.toList
 have spec : ∀ (i j : Nat) (one two : Bool), i ≤ 3 → j ≤ 3 → bL.f a = some ((i : Int), one) → bL.f b = some ((j : Int), two) → Ev (fun k => bu.f k a b s) (sL one two s.data.toList (i : Int) (j : Int)) := by
  intro i j one two hi hj p1 p2
  unfold bu.f
  rw [p1, p2]
  refine Ev.bind (Ev.now _) (Ev.bind (Ev.now _) ?_)
  have := kT s one two hs s.size 0 (by omega) (i : Int) (j : Int) (by omega) (by omega) (by omega) (by omega)
  rw [List.drop_zero] at this
  exact Ev.congr (fun k => rfl) this
 have no : ∀ (i j : Nat) (one two : Bool), (one = false ∨ two = false) → sL one two s.data.toList (i : Int) (j : Int) = false := by
  intro i j one two h
  rw [Bool.eq_false_iff]
  intro z
  obtain ⟨_, z1, z2, _⟩ := (oQ _ _ _ _ _).1 z
  rcases h with h | h
  ·rw [h] at z1; cases z1
  ·rw [h] at z2; cases z2
 have bad : dn.f a b = some false → Ev (fun k => dK.f k a b s) false := by
  intro h
  unfold dK.f
  rw [h]
  exact Ev.bind (Ev.now _) (eH (by simp) (Ev.now _))
 rcases jE a with ⟨i, i1, i2, i3, i4, i5⟩ | ⟨i3, i4⟩
 ·rcases jE b with ⟨j, j1, j2, j3, j4, j5⟩ | ⟨j3, j4⟩
  ·have hsh : dn.f a b = some true := by unfold dn.f; rw [i4, j4]; rfl
   refine ⟨_, spec i j true true i1 j1 i3 j3, ?_, ?_⟩
   ·unfold dK.f
    rw [hsh]
    refine Ev.bind (Ev.now _) (bB rfl (bB hs ?_))
    have hiff := oQ true true s.data.toList (i : Int) (j : Int)
    have hlr : kS s = lrc s.data.toList := rfl
    by_cases ht : Go.Lib.trimS s.data.toList [76, 82, 84, 66] = []
    ·refine bB ht (Ev.bind i5 ?_)
     have hall := (qG _ _).1 ht
     by_cases hc : (kS s : Int) = (i : Int)
     ·refine bB hc (Ev.bind j5 ?_)
      have e : sL true true s.data.toList (i : Int) (j : Int) = decide ((s.size : Int) - (kS s : Int) = (j : Int)) := by
       rw [Bool.eq_iff_iff, hiff, decide_eq_true_iff]
       constructor
       ·rintro ⟨_, _, _, g1, g2⟩
        rw [hz, hlr, g2]
       ·intro g
        exact ⟨hall, rfl, rfl, by rw [← hlr, hc], by rw [← hlr, ← hz, g]⟩
      rw [e]
      exact Ev.now _
     ·rw [show sL true true s.data.toList (i : Int) (j : Int) = false from by
       rw [Bool.eq_false_iff]; intro z
       obtain ⟨_, _, _, z4, _⟩ := hiff.1 z
       exact hc (by rw [hlr, z4])]
      exact eH hc (Ev.now _)
    ·rw [show sL true true s.data.toList (i : Int) (j : Int) = false from by
      rw [Bool.eq_false_iff]; intro z
      exact ht ((qG _ _).2 (hiff.1 z).1)]
     exact eH ht (Ev.now _)
   ·intro z
    obtain ⟨z1, _, _, z4, z5⟩ := (oQ _ _ _ _ _).1 z
    exact ⟨i, j, i1, j1, i2, j2, z1, by omega, by omega⟩
  ·have hsh : dn.f a b = some false := by unfold dn.f; rw [i4, j4]; rfl
   have e := spec i 0 true false i1 (by omega) i3 j3
   rw [no i 0 true false (.inr rfl)] at e
   exact ⟨false, e, bad hsh, fun z => by cases z⟩
 ·have hsh : dn.f a b = some false := by unfold dn.f; rw [i4]; rfl
  rcases jE b with ⟨j, j1, j2, j3, j4, j5⟩ | ⟨j3, j4⟩
  ·have e := spec 0 j false true (by omega) j1 i3 j3
   rw [no 0 j false true (.inl rfl)] at e
   exact ⟨false, e, bad hsh, fun z => by cases z⟩
  ·have e := spec 0 0 false false (by omega) (by omega) i3 j3
   rw [no 0 0 false false (.inl rfl)] at e
   exact ⟨false, e, bad hsh, fun z => by cases z⟩
theorem uD (a b : Int) : (∃ i j : Nat, i ≤ 3 ∧ j ≤ 3 ∧ a = ((2 ^ i : Nat) : Int) ∧ b = ((2 ^ j : Nat) : Int) ∧ bL.f a = some ((i : Int), true) ∧ bL.f b = some ((j : Int), true) ∧ dJ.f a b = some true ∧ dn.f a b = some true ∧ Ev (fun k => bY.f k a) (i : Int) ∧ Ev (fun k => bY.f k b) (j : Int)) ∨ (dJ.f a b = some false ∧ dn.f a b = some false) := by
 unfold dJ.f dn.f
 rcases jE a with ⟨i, i1, i2, i3, i4, i5⟩ | ⟨i3, i4⟩
 ·rcases jE b with ⟨j, j1, j2, j3, j4, j5⟩ | ⟨j3, j4⟩
  ·exact .inl ⟨i, j, i1, j1, i2, j2, i3, j3, by rw [i3, j3]; rfl, by rw [i4, j4]; rfl, i5, j5⟩
  ·exact .inr ⟨by rw [i3, j3]; rfl, by rw [i4, j4]; rfl⟩
 ·refine .inr ⟨?_, by rw [i4]; rfl⟩
  rw [i3]
  rcases jE b with ⟨j, j1, j2, j3, j4, j5⟩ | ⟨j3, j4⟩
  ·rw [j3]; rfl
  ·rw [j3]; rfl
theorem xB (a b : Int) (s : ByteArray) (hs : s.size ≤ 1048576) : ∃ c : Int, Ev (fun k => eZ.f k a b s) c ∧ Ev (fun k => eP.f k a b s) c ∧ 0 ≤ c ∧ c ≤ 2 ∧ (c = 0 → kQ a b s) := by
 obtain ⟨v, v1, v2, v3⟩ := tN a b s hs
 unfold eZ.f eP.f
 rcases uD a b with ⟨i, j, _, _, _, _, _, _, s1, s2, _, _⟩ | ⟨s1, s2⟩
 ·rw [s1, s2]
  cases hv : v with
  | true =>
   rw [hv] at v1 v2
   exact ⟨0, Ev.bind (Ev.now _) (bB rfl (Ev.bind v1 (bB rfl (Ev.now _)))), Ev.bind (Ev.now _) (bB rfl (Ev.bind v2 (bB rfl (Ev.now _)))), by omega, by omega, fun _ => v3 hv⟩
  | false =>
   rw [hv] at v1 v2
   exact ⟨2, Ev.bind (Ev.now _) (bB rfl (Ev.bind v1 (eH (by simp) (Ev.now _)))), Ev.bind (Ev.now _) (bB rfl (Ev.bind v2 (eH (by simp) (Ev.now _)))), by omega, by omega, fun z => by omega⟩
 ·rw [s1, s2]
  exact ⟨1, Ev.bind (Ev.now _) (eH (by simp) (Ev.now _)), Ev.bind (Ev.now _) (eH (by simp) (Ev.now _)), by omega, by omega, fun z => by omega⟩
def dnL (x : SL) : Bool := x.f2 != x.f3
theorem zD (a : Bool) (v : SL) : dnL (bQ.jy a v) = !dnL v := by
 obtain ⟨_, _, c, d⟩ := v
 cases a <;> cases c <;> cases d <;> rfl
theorem ql (a : Bool) (l : List SL) : (jP a l).countP dnL + l.countP dnL = l.length := by
 unfold jP
 rw [List.countP_map, List.countP_reverse]
 induction l with
 | nil => rfl
 | cons x t ih =>
  rw [List.countP_cons, List.countP_cons, List.length_cons]
  have e : (dnL ∘ bQ.jy a) x = !dnL x := zD a x
  rw [e]
  cases hd : dnL x with
  | true => rw [if_neg (by decide), if_pos rfl]; omega
  | false => rw [if_pos (by decide), if_neg (by decide)]; omega
def qX (g : Nat → Nat → List SL) (m : Nat) : Prop := ∀ y x, (g y x).length = m ∧ 2 * (g y x).countP dnL = m
theorem vU {g : Nat → Nat → List SL} {m : Nat} (f : Bool) (W : Nat) (h : qX g m) : qX (iA f W g) (2 * m) := by
 intro y x
 unfold iA
 have h1 := ql true (g y (ovr f W x))
 have h2 := h y (ovr f W x)
 have h3 := h y (und f W x)
 rw [List.length_append, ja, List.countP_append]
 omega
theorem uS {g : Nat → Nat → List SL} {m : Nat} (f : Bool) (H : Nat) (h : qX g m) : qX (ic f H g) (2 * m) := by
 intro y x
 unfold ic
 have h1 := ql false (g (ovr f H y) x)
 have h2 := h (ovr f H y) x
 have h3 := h (und f H y) x
 rw [List.length_append, ja, List.countP_append]
 omega
theorem mK : ∀ (t : List UInt8) (H W m : Nat) (g : Nat → Nat → List SL), qX g m → 2 * (iN t H W g).countP dnL = (iN t H W g).length
 | [], H, W, m, g, h => by rw [iN, (h 0 0).1]; exact (h 0 0).2
 | c :: t, H, W, m, g, h => by
  rw [iN]
  split
  ·exact mK t _ _ _ _ (vU _ _ h)
  ·exact mK t _ _ _ _ (uS _ _ h)
theorem tH (y x : Nat) : (g0 y x).length = 1 ∧ (g0 y x).countP dnL = 0 := ⟨rfl, rfl⟩
theorem wF (c : UInt8) (t : List UInt8) (H W : Nat) : 2 * (iN (c :: t) H W g0).countP dnL = (iN (c :: t) H W g0).length := by
 rw [iN]
 split
 ·refine mK t _ _ 2 _ (fun y x => ?_)
  unfold iA
  have h1 := ql true (g0 y (ovr (c == 76) (W / 2) x))
  have h2 := tH y (ovr (c == 76) (W / 2) x)
  have h3 := tH y (und (c == 76) (W / 2) x)
  rw [List.length_append, ja, List.countP_append]
  omega
 ·refine mK t _ _ 2 _ (fun y x => ?_)
  unfold ic
  have h1 := ql false (g0 (ovr (c == 84) (H / 2) y) x)
  have h2 := tH (ovr (c == 84) (H / 2) y) x
  have h3 := tH (und (c == 84) (H / 2) y) x
  rw [List.length_append, ja, List.countP_append]
  omega
theorem pz {a b : Int} {s : ByteArray} (h : kQ a b s) : ∃ l : List SL, Ev (fun k => aT.f k a b s) l ∧ Ev (fun k => ax.f k a b s) l ∧ l.length ≤ 64 ∧ (l.length : Int) = a * b ∧ wrap64 (a * b) = a * b ∧ (∀ x y : Int, 0 ≤ x → x < a → 0 ≤ y → y < b → l.countP (atL x y) = 1) ∧ (∀ v ∈ l, 0 ≤ v.f0 ∧ v.f0 < a ∧ 0 ≤ v.f1 ∧ v.f1 < b) ∧ (s.data.toList = [] ∨ 2 * l.countP dnL = l.length) := by
 obtain ⟨i, j, hi, hj, ha, hb, hall, hl, hn⟩ := h
 obtain ⟨h1, h2, h3⟩ := wm hi hj ha hb hall hl hn
 have h64 : 2 ^ (i + j) ≤ 64 := mE (n := 6) (by omega)
 have hab : ((2 ^ (i + j) : Nat) : Int) = a * b := by
  rw [ha, hb, Nat.pow_add]
  exact Int.natCast_mul _ _
 refine ⟨_, h1, h2, by rw [h3]; exact h64, by rw [h3]; exact hab, ?_, ?_, ?_, ?_⟩
 ·rw [← hab]
  generalize 2 ^ (i + j) = q at h64
  exact w64 (by omega) (by omega)
 ·intro x y x0 x1 y0 y1
  obtain ⟨x, rfl⟩ := Int.eq_ofNat_of_zero_le x0
  obtain ⟨y, rfl⟩ := Int.eq_ofNat_of_zero_le y0
  rw [ha] at x1
  rw [hb] at y1
  exact wu hl hn (Int.ofNat_lt.1 x1) (Int.ofNat_lt.1 y1)
 ·rw [ha, hb]
  exact wX hl hn
 ·cases hs : s.data.toList with
  | nil => exact .inl rfl
  | cons c t => exact .inr (wF c t _ _)
theorem uV (f : Bool) : iL.f f = some (if f = true then 1 else 0) := by cases f <;> rfl
def mf (A : Nat) (F B H : List Int) (v : SL) : List Int :=
 if rd H ((v.f1.toNat * A + v.f0.toNat : Nat) : Int) = (if v.f3 = true then 1 else 0) then
  (if dn5 v = true then [rd B ((v.f1.toNat * A + A - 1 - v.f0.toNat : Nat) : Int), rd F ((v.f1.toNat * A + v.f0.toNat : Nat) : Int)] else [rd F ((v.f1.toNat * A + v.f0.toNat : Nat) : Int), rd B ((v.f1.toNat * A + A - 1 - v.f0.toNat : Nat) : Int)])
 else
  (if dn5 v = true then [wrap64 (-rd B ((v.f1.toNat * A + A - 1 - v.f0.toNat : Nat) : Int)), wrap64 (-rd F ((v.f1.toNat * A + v.f0.toNat : Nat) : Int))] else [wrap64 (-rd F ((v.f1.toNat * A + v.f0.toNat : Nat) : Int)), wrap64 (-rd B ((v.f1.toNat * A + A - 1 - v.f0.toNat : Nat) : Int))])
theorem xg (A : Nat) (F B H : List Int) (v : SL) : (mf A F B H v).length = 2 := by
 unfold mf
 by_cases h : rd H ((v.f1.toNat * A + v.f0.toNat : Nat) : Int) = (if v.f3 = true then 1 else 0)
 ·rw [if_pos h]
  by_cases hd : dn5 v = true
  ·rw [if_pos hd]; rfl
  ·rw [if_neg hd]; rfl
 ·rw [if_neg h]
  by_cases hd : dn5 v = true
  ·rw [if_pos hd]; rfl
  ·rw [if_neg hd]; rfl
def iq (A : Nat) (F B H : List Int) (l : List SL) : List Int := l.flatMap (mf A F B H)
theorem oV (A : Nat) (F B H : List Int) : ∀ l : List SL, (iq A F B H l).length = 2 * l.length
 | [] => rfl
 | v :: t => by
  have := oV A F B H t
  unfold iq at this ⊢
  rw [List.flatMap_cons, List.length_append, xg, this, List.length_cons]
  omega
theorem qF (A : Nat) (F B H : List Int) (l : List SL) (i : Nat) (h : i < l.length) : iq A F B H (l.take (i + 1)) = iq A F B H (l.take i) ++ mf A F B H l[i] := by
 unfold iq
 rw [List.take_add_one, List.getElem?_eq_getElem h, List.flatMap_append]
 simp
theorem Bu {H : List Int} (h : ∀ x ∈ H, 0 ≤ x ∧ x ≤ 1) {i : Nat} (hi : i < H.length) (f : Bool) : (f != (rd H (i : Int) == 1)) = true ↔ ¬ rd H (i : Int) = (if f = true then 1 else 0) := by
 have := h _ (tY hi)
 generalize rd H (i : Int) = x at this
 have hx : x = 0 ∨ x = 1 := by omega
 rcases hx with rfl | rfl <;> cases f <;> decide
theorem xD {a b : Int} {F B H : List Int} (h : jA a b F B H) : ∃ i j : Nat, i ≤ 3 ∧ j ≤ 3 ∧ a = ((2 ^ i : Nat) : Int) ∧ b = ((2 ^ j : Nat) : Int) ∧ F.length = 2 ^ i * 2 ^ j ∧ B.length = 2 ^ i * 2 ^ j ∧ H.length = 2 ^ i * 2 ^ j ∧ (∀ x ∈ H, 0 ≤ x ∧ x ≤ 1) := by
 obtain ⟨i, j, i1, j1, ha, hb, hF, hB, hH, h4, _⟩ := h
 rw [Nat.pow_add] at hF hB hH
 exact ⟨i, j, i1, j1, ha, hb, hF, hB, hH, h4⟩
theorem mU {l : List Int} {c : Nat} {v : Int} (h : l[c]? = some v) : rd l (c : Int) = v := by
 rw [Av, List.getD_eq_getElem?_getD, h]
 rfl
theorem uP (A : Nat) : ∀ (l : List SL) (i : Nat) (x : List Int × List Int × List Int), (∀ h ∈ x.2.2, 0 ≤ h ∧ h ≤ 1) → ∀ h ∈ (gH A l i x).2.2, 0 ≤ h ∧ h ≤ 1
 | [], _, _, h => h
 | v :: t, i, x, h => uP A t (i + 1) (jv A i v x) (by
  intro q hq
  have hq' : q ∈ (if v.f3 = true then x.2.2.set (v.f1.toNat * A + v.f0.toNat) 1 else x.2.2) := hq
  by_cases h3 : v.f3 = true
  ·rw [if_pos h3] at hq'
   rcases List.mem_or_eq_of_mem_set hq' with z | z
   ·exact h q z
   ·omega
  ·rw [if_neg h3] at hq'
   exact h q hq')
theorem lq {A C : Nat} (hA : 0 < A) (hA8 : A ≤ 8) (hC8 : C ≤ 8) {l : List SL} (hl : l.length = A * C) (hin : ∀ v ∈ l, inS A C v) (hcnt : ∀ x y : Int, 0 ≤ x → x < (A : Int) → 0 ≤ y → y < (C : Int) → l.countP (atL x y) = 1) (m : Nat) (hm : m < l.length) : (gH A l 0 (z3_ (A * C))).1[cF A l[m]]? = some (if dn5 l[m] = true then 2 * (m : Int) + 2 else 2 * (m : Int) + 1) ∧ (gH A l 0 (z3_ (A * C))).2.1[cB A l[m]]? = some (if dn5 l[m] = true then 2 * (m : Int) + 1 else 2 * (m : Int) + 2) ∧ (gH A l 0 (z3_ (A * C))).2.2[cF A l[m]]? = some (if l[m].f3 = true then 1 else 0) := by
 have hz : (z3_ (A * C)).1.length = A * C ∧ (z3_ (A * C)).2.1.length = A * C := by simp [z3_]
 have h := xc hA l 0 (z3_ (A * C)) hin (mo hin hcnt) (fun v hv => by
  obtain ⟨v0, v1, v2, v3⟩ := hin v hv
  obtain ⟨_, _, c3, c4⟩ := sJ hA8 hC8 v0 v1 v2 v3
  exact ⟨by rw [hz.1]; exact c3, by rw [hz.2]; exact c4, sH c3⟩) m hm
 rw [Nat.zero_add] at h
 exact h
def gJ (n : Nat) : List Int := (List.range (2 * n)).map (fun (j : Nat) => (j : Int) + 1)
theorem vE (n : Nat) : gJ (n + 1) = gJ n ++ [2 * (n : Int) + 1, 2 * (n : Int) + 2] := by
 unfold gJ
 rw [show 2 * (n + 1) = 2 * n + 1 + 1 by omega, List.range_succ, List.range_succ, List.map_append, List.map_append, List.append_assoc]
 congr 1
theorem tJ {A C : Nat} (hA : 0 < A) (hA8 : A ≤ 8) (hC8 : C ≤ 8) {l : List SL} (hl : l.length = A * C) (hin : ∀ v ∈ l, inS A C v) (hcnt : ∀ x y : Int, 0 ≤ x → x < (A : Int) → 0 ≤ y → y < (C : Int) → l.countP (atL x y) = 1) : iq A (gH A l 0 (z3_ (A * C))).1 (gH A l 0 (z3_ (A * C))).2.1 (gH A l 0 (z3_ (A * C))).2.2 l = gJ (A * C) := by
 have key : ∀ i, i ≤ l.length → iq A (gH A l 0 (z3_ (A * C))).1 (gH A l 0 (z3_ (A * C))).2.1 (gH A l 0 (z3_ (A * C))).2.2 (l.take i) = gJ i := by
  intro i
  induction i with
  | zero => intro _; rfl
  | succ i ih =>
   intro hi
   obtain ⟨f1, f2, f3⟩ := lq hA hA8 hC8 hl hin hcnt i hi
   rw [qF _ _ _ _ _ i hi, ih (by omega), vE]
   congr 1
   have g1 := mU f1
   have g2 := mU f2
   have g3 := mU f3
   generalize l[i] = v at g1 g2 g3
   generalize (gH A l 0 (z3_ (A * C))).1 = F at g1
   generalize (gH A l 0 (z3_ (A * C))).2.1 = B at g2
   generalize (gH A l 0 (z3_ (A * C))).2.2 = H at g3
   unfold mf
   rw [if_pos g3, g1, g2]
   by_cases hd : dn5 v = true
   ·rw [if_pos hd, if_pos hd, if_pos hd]
   ·rw [if_neg hd, if_neg hd, if_neg hd]
 have := key l.length (Nat.le_refl _)
 rw [List.take_length, hl] at this
 exact this
theorem xu {l : List Int} (h : ∀ i j (hi : i < l.length) (hj : j < l.length), l[i] = l[j] → i = j) : l.Nodup := by
 rw [List.nodup_iff_pairwise_ne]
 exact List.pairwise_iff_getElem.2 (fun i j hi hj hij e => absurd (h i j hi hj e) (by omega))
theorem wG {a b : Int} {s : ByteArray} {A C : Nat} (hs : kQ a b s) (hA : 0 < A) (hA8 : A ≤ 8) (hC : 0 < C) (hC8 : C ≤ 8) (ha : a = (A : Int)) (hb : b = (C : Int)) {l : List SL} (hl : l.length = A * C) (hin : ∀ v ∈ l, inS A C v) (hcnt : ∀ x y : Int, 0 ≤ x → x < (A : Int) → 0 ≤ y → y < (C : Int) → l.countP (atL x y) = 1) : jA a b (gH A l 0 (z3_ (A * C))).1 (gH A l 0 (z3_ (A * C))).2.1 (gH A l 0 (z3_ (A * C))).2.2 ∧ Run ((gH A l 0 (z3_ (A * C))).1 ++ (gH A l 0 (z3_ (A * C))).2.1) 1 := by
 have fx := lq hA hA8 hC8 hl hin hcnt
 obtain ⟨q1, q2, q3⟩ := mg A l 0 (z3_ (A * C))
 have hh := uP A l 0 (z3_ (A * C)) (by
  intro h hx
  have : h = 0 := List.eq_of_mem_replicate hx
  omega)
 simp only [z3_, List.length_replicate] at q1 q2 q3
 have h0 : 0 < A * C := Nat.mul_pos hA hC
 change (gH A l 0 (z3_ (A * C))).1.length = A * C at q1
 change (gH A l 0 (z3_ (A * C))).2.1.length = A * C at q2
 change (gH A l 0 (z3_ (A * C))).2.2.length = A * C at q3
 generalize (gH A l 0 (z3_ (A * C))).1 = F at *
 generalize (gH A l 0 (z3_ (A * C))).2.1 = B at *
 generalize (gH A l 0 (z3_ (A * C))).2.2 = H at *
 have atF : ∀ c (hc : c < F.length), ∃ m, ∃ hm : m < l.length, cF A l[m] = c ∧ F[c] = (if dn5 l[m] = true then 2 * (m : Int) + 2 else 2 * (m : Int) + 1) := fun c hc => by
  obtain ⟨⟨m, hm, e⟩, _⟩ := wJ hA hcnt c (by omega)
  refine ⟨m, hm, e, ?_⟩
  have := (fx m hm).1
  rw [e, List.getElem?_eq_getElem hc] at this
  injection this
 have atB : ∀ c (hc : c < B.length), ∃ m, ∃ hm : m < l.length, cB A l[m] = c ∧ B[c] = (if dn5 l[m] = true then 2 * (m : Int) + 1 else 2 * (m : Int) + 2) := fun c hc => by
  obtain ⟨_, m, hm, e⟩ := wJ hA hcnt c (by omega)
  refine ⟨m, hm, e, ?_⟩
  have := (fx m hm).2.1
  rw [e, List.getElem?_eq_getElem hc] at this
  injection this
 have hrun : Run (F ++ B) 1 := by
  refine ⟨fun x hx => ?_, xu (fun i j hi hj e => ?_)⟩
  ·rw [List.length_append]
   rcases List.mem_append.1 hx with h | h
   ·obtain ⟨c, hc, e⟩ := List.getElem_of_mem h
    obtain ⟨m, hm, _, e2⟩ := atF c hc
    rw [← e, e2]
    split <;> omega
   ·obtain ⟨c, hc, e⟩ := List.getElem_of_mem h
    obtain ⟨m, hm, _, e2⟩ := atB c hc
    rw [← e, e2]
    split <;> omega
  ·rw [List.length_append] at hi hj
   rw [List.getElem_append, List.getElem_append] at e
   by_cases hi' : i < F.length
   ·obtain ⟨m, hm, e1, e2⟩ := atF i hi'
    rw [dif_pos hi', e2] at e
    by_cases hj' : j < F.length
    ·obtain ⟨m', hm', e1', e2'⟩ := atF j hj'
     rw [dif_pos hj', e2'] at e
     have : m = m' := by split at e <;> split at e <;> omega
     subst this
     exact e1.symm.trans e1'
    ·obtain ⟨m', hm', e1', e2'⟩ := atB (j - F.length) (by omega)
     rw [dif_neg hj', e2'] at e
     have : m = m' := by split at e <;> split at e <;> omega
     subst this
     exfalso
     by_cases hd : dn5 l[m] = true
     ·rw [if_pos hd, if_pos hd] at e; omega
     ·rw [if_neg hd, if_neg hd] at e; omega
   ·obtain ⟨m, hm, e1, e2⟩ := atB (i - F.length) (by omega)
    rw [dif_neg hi', e2] at e
    by_cases hj' : j < F.length
    ·obtain ⟨m', hm', e1', e2'⟩ := atF j hj'
     rw [dif_pos hj', e2'] at e
     have : m = m' := by split at e <;> split at e <;> omega
     subst this
     exfalso
     by_cases hd : dn5 l[m] = true
     ·rw [if_pos hd, if_pos hd] at e; omega
     ·rw [if_neg hd, if_neg hd] at e; omega
    ·obtain ⟨m', hm', e1', e2'⟩ := atB (j - F.length) (by omega)
     rw [dif_neg hj', e2'] at e
     have : m = m' := by split at e <;> split at e <;> omega
     subst this
     have := e1.symm.trans e1'
     omega
 refine ⟨?_, hrun⟩
 obtain ⟨i, j, i1, j1, ha', hb', _⟩ := hs
 have eA : A = 2 ^ i := by rw [ha] at ha'; exact Int.ofNat.inj ha'
 have eC : C = 2 ^ j := by rw [hb] at hb'; exact Int.ofNat.inj hb'
 have e1 : A * C = 2 ^ (i + j) := by rw [eA, eC, Nat.pow_add]
 refine ⟨i, j, i1, j1, ha', hb', q1.trans e1, q2.trans e1, q3.trans e1, hh, 1, by omega, by omega, ?_, hrun⟩
 have hl0 : 0 < l.length := by omega
 obtain ⟨f1, f2, _⟩ := fx 0 hl0
 by_cases hd : dn5 l[0] = true
 ·rw [if_pos hd] at f2
  exact List.mem_append.2 (.inr (List.mem_of_getElem? f2))
 ·rw [if_neg hd] at f1
  exact List.mem_append.2 (.inl (List.mem_of_getElem? f1))
theorem yM (l : List Int) (h0 : 0 < l.length) (hl : l.length ≤ 1000) : ∃ m, Ev (fun k => aZ.f k l) m ∧ m ∈ l ∧ ∀ x ∈ l, m ≤ x := by
 have loop : ∀ (d i : Nat), i + d = l.length → ∀ m : Int, m ∈ l → (∀ j (hj : j < l.length), j < i → m ≤ l[j]) → ∃ r, Ev (fun k => aZ.l0 k l m (i : Int)) r ∧ r ∈ l ∧ ∀ j (hj : j < l.length), r ≤ l[j] := by
  intro d
  induction d with
  | zero =>
   intro i hi m hm hj
   exact ⟨m, Ev.step (f := fun _ => some m) (fun k => by rw [aZ.l0, if_neg (by omega)]) (Ev.now _), hm, fun j hj' => hj j hj' (by omega)⟩
  | succ d ih =>
   intro i hi m hm hj
   have hil : i < l.length := by omega
   obtain ⟨p1, p2, p3⟩ := xe m l[i]
   obtain ⟨r, r1, r2, r3⟩ := ih (i + 1) (by omega) (mn m l[i]) (by
    rcases p3 with e | e
    ·rw [e]; exact hm
    ·rw [e]; exact List.getElem_mem hil) (fun j hj' hji => by
    by_cases e : j = i
    ·subst e; omega
    ·have := hj j hj' (by omega); omega)
   refine ⟨r, Ev.step (fun k => ?_) r1, r2, r3⟩
   rw [aZ.l0, if_pos (by omega), if_pos (by omega), iW hil, jO i (by omega)]
 have e0 : rd l (0 : Int) = l[0] := iW (i := 0) h0
 obtain ⟨r, r1, r2, r3⟩ := loop (l.length - 1) 1 (by omega) l[0] (List.getElem_mem h0) (fun j hj hji => by
  obtain rfl : j = 0 := by omega
  exact Int.le_refl _)
 refine ⟨r, ?_, r2, fun x hx => ?_⟩
 ·unfold aZ.f
  refine eH (by omega) (bB (by omega) ?_)
  rw [e0]
  exact r1
 ·obtain ⟨j, hj, e⟩ := List.getElem_of_mem hx
  have := r3 j hj
  omega
theorem read_loopsI (A C : Nat) (hA : A ≤ 8) (hC : C ≤ 8) (F B H : List Int) (hF : F.length = A * C) (hB : B.length = A * C) (hH : H.length = A * C) (h01 : ∀ x ∈ H, 0 ≤ x ∧ x ≤ 1) (b : Int) (l : List SL) (hl : l.length ≤ 64) (hin : ∀ v ∈ l, 0 ≤ v.f0 ∧ v.f0 < (A : Int) ∧ 0 ≤ v.f1 ∧ v.f1 < (C : Int)) : ∀ (d i : Nat), i + d = l.length → Ev (fun k => aV.l0 k (iq A F B H (l.take i)) l (l.length : Int) (i : Int) (A : Int) b F B H) (iq A F B H l) := by
 intro d
 induction d with
 | zero =>
  intro i hi
  obtain rfl : i = l.length := by omega
  rw [List.take_length]
  exact Ev.step (f := fun _ => some (iq A F B H l)) (fun k => by rw [aV.l0, if_neg (by omega)]) (Ev.now _)
 | succ d ih =>
  intro i hi
  have hil : i < l.length := by omega
  have s2 := ih (i + 1) (by omega)
  rw [qF A F B H l i hil] at s2
  have hacc : (iq A F B H (l.take i)).length + 2 < 17592186044416 := by rw [oV, List.length_take]; omega
  have hg := uh hil
  obtain ⟨v0, v1, v2, v3⟩ := hin _ (List.getElem_mem hil)
  generalize l[i] = v at hg v0 v1 v2 v3 s2
  generalize iq A F B H (l.take i) = acc at s2 hacc
  have g0 : (i : Int) < (l.length : Int) := by omega
  have g1 : 0 ≤ (i : Int) := by omega
  have hi64 : i ≤ 64 := by omega
  obtain ⟨c1, c2, c3, c4⟩ := sJ hA hC v0 v1 v2 v3
  have f1 : ((v.f1.toNat * A + v.f0.toNat : Nat) : Int) < (F.length : Int) := by rw [hF]; exact Int.ofNat_lt.2 c3
  have f2 : ((v.f1.toNat * A + A - 1 - v.f0.toNat : Nat) : Int) < (B.length : Int) := by rw [hB]; exact Int.ofNat_lt.2 c4
  have f3 : ((v.f1.toNat * A + v.f0.toNat : Nat) : Int) < (H.length : Int) := by rw [hH]; exact Int.ofNat_lt.2 c3
  have z1 : 0 ≤ ((v.f1.toNat * A + v.f0.toNat : Nat) : Int) := Int.natCast_nonneg _
  have z2 : 0 ≤ ((v.f1.toNat * A + A - 1 - v.f0.toNat : Nat) : Int) := Int.natCast_nonneg _
  have hw := jO i (Nat.lt_of_le_of_lt hi64 (by decide))
  have hd := Bu h01 (by rw [hH]; exact c3) v.f3
  have ht := uV v.f3
  have p1 := @mf.eq_1 A F B H v
  generalize v.f1.toNat * A + v.f0.toNat = p at c1 f1 f3 z1 hd p1
  generalize v.f1.toNat * A + A - 1 - v.f0.toNat = q at c2 f2 z2 p1
  have J : ∀ (u w : Int), mf A F B H v = (if rd H (p : Int) = (if v.f3 = true then 1 else 0) then [u, w] else [wrap64 (-u), wrap64 (-w)]) → Ev (fun k => aV.j1 k acc (p : Int) u w l (l.length : Int) (i : Int) (A : Int) b F B H v.f0 v.f1 v.f2 v.f3) (iq A F B H l) := by
   intro u w hr
   by_cases hh : rd H (p : Int) = (if v.f3 = true then 1 else 0)
   ·rw [if_pos hh] at hr
    rw [hr] at s2
    have e2 : Ev (fun k => aV.j2 k acc u w l (l.length : Int) (i : Int) (A : Int) b F B H) (iq A F B H l) := Ev.step (fun k => by rw [aV.j2, Option.bind_some, if_pos (show acc.length + [u, w].length < 17592186044416 from hacc), hw]) s2
    exact Ev.step (fun k => by rw [aV.j1, if_pos z1, if_pos f3, ht, Option.bind_some, if_pos hh]) e2
   ·rw [if_neg hh] at hr
    rw [hr] at s2
    have e2 : Ev (fun k => aV.j2 k acc (wrap64 (-u)) (wrap64 (-w)) l (l.length : Int) (i : Int) (A : Int) b F B H) (iq A F B H l) := Ev.step (fun k => by rw [aV.j2, Option.bind_some, if_pos (show acc.length + [wrap64 (-u), wrap64 (-w)].length < 17592186044416 from hacc), hw]) s2
    exact Ev.step (fun k => by rw [aV.j1, if_pos z1, if_pos f3, ht, Option.bind_some, if_neg hh]) e2
  by_cases hdn : dn5 v = true
  ·have j2 := J (rd B (q : Int)) (rd F (p : Int)) (by rw [p1, if_pos hdn, if_pos hdn])
   have hdn' : (v.f2 != v.f3) = true := hdn
   refine Ev.step (fun k => ?_) j2
   ·rw [aV.l0, if_pos g0, if_pos g1, if_pos g0, hg, eT.f, c1, Option.bind_some, if_pos z1, if_pos f1, fM.f, c2, Option.bind_some, if_pos z2, if_pos f2, gu.f, Option.bind_some, if_pos hdn']
  ·have j2 := J (rd F (p : Int)) (rd B (q : Int)) (by rw [p1, if_neg hdn, if_neg hdn])
   have hdn' : ¬ (v.f2 != v.f3) = true := hdn
   refine Ev.step (fun k => ?_) j2
   ·rw [aV.l0, if_pos g0, if_pos g1, if_pos g0, hg, eT.f, c1, Option.bind_some, if_pos z1, if_pos f1, fM.f, c2, Option.bind_some, if_pos z2, if_pos f2, gu.f, Option.bind_some, if_neg hdn']
theorem readForm_twoI {a b : Int} {F B H : List Int} {s : ByteArray} (hf : jA a b F B H) (hs : kQ a b s) : ∃ (A C : Nat) (l : List SL), 0 < A ∧ A ≤ 8 ∧ 0 < C ∧ C ≤ 8 ∧ a = (A : Int) ∧ b = (C : Int) ∧ F.length = A * C ∧ B.length = A * C ∧ H.length = A * C ∧ l.length = A * C ∧ (∀ v ∈ l, 0 ≤ v.f0 ∧ v.f0 < (A : Int) ∧ 0 ≤ v.f1 ∧ v.f1 < (C : Int)) ∧ (∀ x y : Int, 0 ≤ x → x < (A : Int) → 0 ≤ y → y < (C : Int) → l.countP (atL x y) = 1) ∧ Ev (fun k => aT.f k a b s) l ∧ Ev (fun k => ax.f k a b s) l ∧ Ev (fun k => aV.f k a b F B H s) (iq A F B H l) := by
 obtain ⟨i, j, i1, j1, ha, hb, hF, hB, hH, h4⟩ := xD hf
 obtain ⟨l, l1, l2, l3, l4, _, l6, l7, _⟩ := pz hs
 have p : ∀ q : Nat, q ≤ 3 → 0 < 2 ^ q ∧ 2 ^ q ≤ 8 := fun q hq => ⟨Nat.pow_pos (by omega), Nat.le_trans (Nat.pow_le_pow_right (by omega) hq) (by decide)⟩
 obtain ⟨A0, A8⟩ := p i i1
 obtain ⟨C0, C8⟩ := p j j1
 generalize 2 ^ i = A at *
 generalize 2 ^ j = C at *
 have hlen : l.length = A * C := by
  rw [ha, hb] at l4
  have e : (A : Int) * (C : Int) = ((A * C : Nat) : Int) := (Int.natCast_mul _ _).symm
  rw [e] at l4
  omega
 rw [ha, hb] at l6 l7
 have r2 := read_loopsI A C A8 C8 F B H hF hB hH h4 b l l3 l7 l.length 0 (by omega)
 refine ⟨A, C, l, A0, A8, C0, C8, ha, hb, hF, hB, hH, hlen, l7, l6, l1, l2, ?_⟩
 ·unfold aV.f
  refine Ev.bind l2 ?_
  rw [ha]
  exact r2
theorem right_loopsI (x : List Int) (m : Int) (hx : x.length ≤ 1000) : ∀ (d i : Nat), i + d = x.length → ∃ v : Bool, Ev (fun k => bM.l0 k m x (x.length : Int) (i : Int)) v ∧ (v = true ↔ ∀ j (hj : j < x.length), i ≤ j → x[j] = wrap64 (m + (j : Int))) := by
 intro d
 induction d with
 | zero =>
  intro i hi
  exact ⟨true, Ev.step (f := fun _ => some true) (fun k => by rw [bM.l0, if_neg (by omega)]) (Ev.now _), fun _ j hj hij => by omega, fun _ => rfl⟩
 | succ d ih =>
  intro i hi
  have hil : i < x.length := by omega
  obtain ⟨v, v2, v3⟩ := ih (i + 1) (by omega)
  have g0 : (i : Int) < (x.length : Int) := by omega
  have g1 : 0 ≤ (i : Int) := by omega
  have hw := jO i (by omega)
  have hg := iW hil
  by_cases c : x[i] = wrap64 (m + (i : Int))
  ·refine ⟨v, Ev.step (fun k => ?_) v2, ?_⟩
   ·rw [bM.l0, if_pos g0, if_pos g1, if_pos g0, hg, if_pos c, hw]
   ·rw [v3]
    constructor
    ·intro g j hj hij
     by_cases e : j = i
     ·subst e; exact c
     ·exact g j hj (Nat.lt_of_le_of_ne hij (fun z => e z.symm))
    ·intro g j hj hij
     exact g j hj (Nat.le_of_succ_le hij)
  ·refine ⟨false, Ev.step (f := fun _ => some false) (fun k => ?_) (Ev.now _), (fun z => by cases z), fun g => (c (g i hil (Nat.le_refl _))).elim⟩
   ·rw [bM.l0, if_pos g0, if_pos g1, if_pos g0, hg, if_neg c]
theorem exists_least : ∀ (l : List Int), 0 < l.length → ∃ m, m ∈ l ∧ ∀ x ∈ l, m ≤ x
 | [], h => by simp at h
 | [a], _ => ⟨a, by simp, fun x hx => by simp at hx; omega⟩
 | a :: b :: t, _ => by
  obtain ⟨m, m1, m2⟩ := exists_least (b :: t) (by simp)
  by_cases h : a ≤ m
  ·exact ⟨a, List.mem_cons_self, fun x hx => by
    rcases List.mem_cons.1 hx with e | e
    ·omega
    ·have := m2 x e; omega⟩
  ·exact ⟨m, List.mem_cons_of_mem _ m1, fun x hx => by
    rcases List.mem_cons.1 hx with e | e
    ·omega
    ·exact m2 x e⟩
theorem isRight_fullI {a b : Int} {F B H : List Int} {s : ByteArray} (hf : jA a b F B H) (hs : kQ a b s) : ∃ (A C : Nat) (l : List SL) (m : Int) (v : Bool), (0 < A ∧ A ≤ 8 ∧ 0 < C ∧ C ≤ 8 ∧ a = (A : Int) ∧ b = (C : Int)) ∧ (F.length = A * C ∧ B.length = A * C ∧ H.length = A * C ∧ l.length = A * C) ∧ (∀ v ∈ l, 0 ≤ v.f0 ∧ v.f0 < (A : Int) ∧ 0 ≤ v.f1 ∧ v.f1 < (C : Int)) ∧ (∀ x y : Int, 0 ≤ x → x < (A : Int) → 0 ≤ y → y < (C : Int) → l.countP (atL x y) = 1) ∧ Ev (fun k => aT.f k a b s) l ∧ Ev (fun k => aV.f k a b F B H s) (iq A F B H l) ∧ m ∈ F ++ B ∧ (∀ x ∈ F ++ B, m ≤ x) ∧ Ev (fun k => bM.f k a b F B H s) v ∧ (v = true ↔ ∀ j (hj : j < (iq A F B H l).length), (iq A F B H l)[j] = wrap64 (m + (j : Int))) := by
 obtain ⟨A, C, l, A0, A8, C0, C8, ha, hb, hF, hB, hH, hl, q1, q2, q3, q4, r2⟩ := readForm_twoI hf hs
 have h64 : A * C ≤ 64 := Nat.mul_le_mul A8 C8
 have h0 : 0 < A * C := Nat.mul_pos A0 C0
 obtain ⟨m, m2, m3⟩ : ∃ m, m ∈ F ++ B ∧ ∀ x ∈ F ++ B, m ≤ x := exists_least (F ++ B) (by rw [List.length_append]; omega)
 obtain ⟨p, p1, p2, p3⟩ := yM F (by omega) (by omega)
 obtain ⟨q, q1', q2', q3'⟩ := yM B (by omega) (by omega)
 have e : mn p q = m := by
  obtain ⟨n1, n2, n3⟩ := xe p q
  have g1 := m3 p (List.mem_append.2 (.inl p2))
  have g2 := m3 q (List.mem_append.2 (.inr q2'))
  rcases List.mem_append.1 m2 with h | h
  ·have := p3 m h; omega
  ·have := q3' m h; omega
 have hx : (iq A F B H l).length ≤ 1000 := by rw [oV]; omega
 obtain ⟨v, v2, v3⟩ := right_loopsI (iq A F B H l) m hx (iq A F B H l).length 0 (by omega)
 refine ⟨A, C, l, m, v, ⟨A0, A8, C0, C8, ha, hb⟩, ⟨hF, hB, hH, hl⟩, q1, q2, q3, r2, m2, m3, ?_, ?_⟩
 ·unfold bM.f
  refine Ev.bind p1 (Ev.bind q1' (Ev.bind r2 ?_))
  rw [e]
  exact v2
 ·rw [v3]
  exact ⟨fun g j hj => g j hj (Nat.zero_le _), fun g j hj _ => g j hj⟩
theorem yV {g : Int → Int} {l : List Int} {c : Nat} (h : c < l.length) : rd (l.map g) (c : Int) = g (rd l (c : Int)) := by
 rw [iW (by simpa using h), iW h, List.getElem_map]
theorem sD (g : Int → Int) (A : Nat) (F B H : List Int) : ∀ l : List SL, (∀ v ∈ l, rd H (cF A v : Int) = (if v.f3 = true then 1 else 0) ∧ cF A v < F.length ∧ cB A v < B.length) → iq A (F.map g) (B.map g) H l = (iq A F B H l).map g
 | [], _ => rfl
 | v :: t, h => by
  have ih := sD g A F B H t (fun w hw => h w (List.mem_cons_of_mem _ hw))
  obtain ⟨h1, h2, h3⟩ := h v List.mem_cons_self
  have e1 := yV (g := g) h2
  have e2 := yV (g := g) h3
  have ho : mf A (F.map g) (B.map g) H v = (mf A F B H v).map g := by
   unfold mf
   change rd H ((v.f1.toNat * A + v.f0.toNat : Nat) : Int) = _ at h1
   change rd (F.map g) ((v.f1.toNat * A + v.f0.toNat : Nat) : Int) = g (rd F ((v.f1.toNat * A + v.f0.toNat : Nat) : Int)) at e1
   change rd (B.map g) ((v.f1.toNat * A + A - 1 - v.f0.toNat : Nat) : Int) = g (rd B ((v.f1.toNat * A + A - 1 - v.f0.toNat : Nat) : Int)) at e2
   rw [if_pos h1, if_pos h1, e1, e2]
   by_cases hd : dn5 v = true
   ·rw [if_pos hd, if_pos hd]; rfl
   ·rw [if_neg hd, if_neg hd]; rfl
  unfold iq at ih ⊢
  rw [List.flatMap_cons, List.flatMap_cons, List.map_append, ih, ho]
theorem kN (n : Nat) : (gJ n).length = 2 * n := by unfold gJ; simp
theorem kH (n j : Nat) (h : j < (gJ n).length) : (gJ n)[j] = (j : Int) + 1 := by
 have e : (gJ n)[j]? = some ((j : Int) + 1) := by
  unfold gJ
  rw [List.getElem?_map, List.getElem?_range (by rw [kN] at h; exact h)]
  rfl
 rw [List.getElem?_eq_getElem h] at e
 exact Option.some.inj e
theorem run_map {l : List Int} {q : Int} (h : Run l 1) (hl : l.length ≤ 128) (q0 : 0 ≤ q) (q1 : q ≤ 1000) : Run (l.map (fun x => wrap64 (x + q))) (1 + q) ∧ ∀ x ∈ l, wrap64 (x + q) = x + q := by
 have hw : ∀ x ∈ l, wrap64 (x + q) = x + q := fun x hx => by
  have := h.1 x hx
  exact w64 (by omega) (by omega)
 refine ⟨⟨fun y hy => ?_, ?_⟩, hw⟩
 ·obtain ⟨x, hx, e⟩ := List.mem_map.1 hy
  have := h.1 x hx
  have e2 : wrap64 (x + q) = y := e
  rw [hw x hx] at e2
  rw [List.length_map]
  omega
 ·rw [List.nodup_iff_pairwise_ne, List.pairwise_map]
  refine ((List.nodup_iff_pairwise_ne.1 h.2)).imp_of_mem (fun {x y} hx hy hne e => hne ?_)
  have e2 : wrap64 (x + q) = wrap64 (y + q) := e
  rw [hw x hx, hw y hy] at e2
  omega
theorem rE {a b : Int} {s : ByteArray} (hs : kQ a b s) : ∃ (A C : Nat) (F B H : List Int), (A ≤ 8 ∧ C ≤ 8) ∧ 0 < A * C ∧ A * C ≤ 64 ∧ a = (A : Int) ∧ b = (C : Int) ∧ (F.length = A * C ∧ B.length = A * C ∧ H.length = A * C) ∧ Ev (fun k => aY.f k a b s) (a, b, F, B, H) ∧ jA a b F B H ∧ Ev (fun k => bM.f k a b F B H s) true ∧ Ev (fun k => aV.f k a b F B H s) (gJ (A * C)) ∧ jA a b (F.map (fun x => wrap64 (x + 16))) (B.map (fun x => wrap64 (x + 16))) H ∧ Ev (fun k => bM.f k a b (F.map (fun x => wrap64 (x + 16))) (B.map (fun x => wrap64 (x + 16))) H s) true := by
 obtain ⟨A, C, l, hA8, hC8, hA, hC, ha, hb, hl, hin, l1, l2⟩ := qE hs
 have h0 : 0 < A * C := Nat.mul_pos hA hC
 have h64 : A * C ≤ 64 := Nat.mul_le_mul hA8 hC8
 obtain ⟨l', l1', _, _, _, _, c1', _⟩ := pz hs
 obtain rfl := ni l1 l1'
 rw [ha, hb] at c1'
 obtain ⟨ok1, run1⟩ := wG hs hA hA8 hC hC8 ha hb hl hin c1'
 have rd1 := tJ hA hA8 hC8 hl hin c1'
 have fx := lq hA hA8 hC8 hl hin c1'
 obtain ⟨n1, n2, n3⟩ := mg A l 0 (z3_ (A * C))
 simp only [z3_, List.length_replicate] at n1 n2 n3
 change (gH A l 0 (z3_ (A * C))).1.length = A * C at n1
 change (gH A l 0 (z3_ (A * C))).2.1.length = A * C at n2
 change (gH A l 0 (z3_ (A * C))).2.2.length = A * C at n3
 have hd : ∀ v ∈ l, rd (gH A l 0 (z3_ (A * C))).2.2 (cF A v : Int) = (if v.f3 = true then 1 else 0) ∧ cF A v < (gH A l 0 (z3_ (A * C))).1.length ∧ cB A v < (gH A l 0 (z3_ (A * C))).2.1.length := fun v hv => by
  obtain ⟨m, hm, e⟩ := List.getElem_of_mem hv
  obtain ⟨v0, v1, v2, v3⟩ := hin v hv
  obtain ⟨_, _, c3, c4⟩ := sJ hA8 hC8 v0 v1 v2 v3
  have := (fx m hm).2.2
  rw [e] at this
  exact ⟨mU this, by rw [n1]; exact c3, by rw [n2]; exact c4⟩
 generalize (gH A l 0 (z3_ (A * C))).1 = F at *
 generalize (gH A l 0 (z3_ (A * C))).2.1 = B at *
 generalize (gH A l 0 (z3_ (A * C))).2.2 = H at *
 have hlen : (F ++ B).length = 2 * (A * C) := by rw [List.length_append]; omega
 have right : ∀ (F' B' : List Int) (q : Int), 0 ≤ q → q ≤ 1000 → jA a b F' B' H → Run (F' ++ B') (1 + q) → (∀ x ∈ iq A F' B' H l, x ∈ F' ++ B') → iq A F' B' H l = (gJ (A * C)).map (fun x => wrap64 (x + q)) → Ev (fun k => bM.f k a b F' B' H s) true ∧ Ev (fun k => aV.f k a b F' B' H s) (iq A F' B' H l) := by
  intro F' B' q q0 q1 hok hrun hmem hread
  obtain ⟨A2, C2, l2_, m, v, ⟨b1, b2, b3, b4, b5, b6⟩, _, _, _, b7, b8, b9, b10, b11, b12⟩ := isRight_fullI hok hs
  obtain rfl := ni l1 b7
  obtain rfl : A = A2 := by omega
  refine ⟨?_, b8⟩
  have hv : v = true := b12.2 (fun j hj => by
   have hm : m = 1 + q := by
    have g1 := hrun.1 m b9
    have hc0 : 0 < (gJ (A * C)).length := by rw [kN]; omega
    have g2 : (1 + q) ∈ F' ++ B' := by
     refine hmem _ ?_
     rw [hread]
     refine List.mem_map.2 ⟨(gJ (A * C))[0], List.getElem_mem hc0, ?_⟩
     rw [kH]
     show wrap64 (((0 : Nat) : Int) + 1 + q) = 1 + q
     rw [w64 (by omega) (by omega)]
     omega
    have := b10 _ g2
    omega
   have hj2 : j < (gJ (A * C)).length := by rw [hread, List.length_map] at hj; exact hj
   have e : (iq A F' B' H l)[j] = wrap64 ((gJ (A * C))[j] + q) := by
    have : ∀ (x : List Int) (hx : j < x.length), x = (gJ (A * C)).map (fun x => wrap64 (x + q)) → x[j] = wrap64 ((gJ (A * C))[j] + q) := by
     intro x hx ex
     subst ex
     rw [List.getElem_map]
    exact this _ hj hread
   rw [e, kH, hm]
   congr 1
   omega)
  rw [hv] at b11
  exact b11
 have hw0 : ∀ x ∈ gJ (A * C), 1 ≤ x ∧ x ≤ 128 := fun x hx => by
  obtain ⟨j, hj, e⟩ := List.getElem_of_mem hx
  rw [kH] at e
  rw [kN] at hj
  omega
 have id0 : (gJ (A * C)).map (fun x => wrap64 (x + 0)) = gJ (A * C) := by
  have : ∀ x ∈ gJ (A * C), wrap64 (x + 0) = id x := fun x hx => by
   have := hw0 x hx
   exact (w64 (by omega) (by omega)).trans (by simp)
  rw [List.map_congr_left this, List.map_id]
 have memOf : ∀ (l' : List SL) (F' B' H' : List Int), (∀ v ∈ l', rd H' (cF A v : Int) = (if v.f3 = true then 1 else 0) ∧ cF A v < F'.length ∧ cB A v < B'.length) → ∀ x ∈ iq A F' B' H' l', x ∈ F' ++ B' := by
  intro l' F' B' H' h x hx
  unfold iq at hx
  obtain ⟨v, hv, hx⟩ := List.mem_flatMap.1 hx
  obtain ⟨h1, h2, h3⟩ := h v hv
  unfold mf at hx
  change rd H' ((v.f1.toNat * A + v.f0.toNat : Nat) : Int) = _ at h1
  rw [if_pos h1] at hx
  have m1 := tY h2
  have m2 := tY h3
  by_cases hd : dn5 v = true
  ·rw [if_pos hd] at hx
   simp only [List.mem_cons, List.not_mem_nil, or_false] at hx
   rcases hx with e | e
   ·rw [e]; exact List.mem_append.2 (.inr m2)
   ·rw [e]; exact List.mem_append.2 (.inl m1)
  ·rw [if_neg hd] at hx
   simp only [List.mem_cons, List.not_mem_nil, or_false] at hx
   rcases hx with e | e
   ·rw [e]; exact List.mem_append.2 (.inl m1)
   ·rw [e]; exact List.mem_append.2 (.inr m2)
 obtain ⟨r1, r2⟩ := right F B 0 (by omega) (by omega) ok1 run1 (memOf l F B H hd) (by rw [id0]; exact rd1)
 obtain ⟨run2, _⟩ := run_map run1 (q := 16) (by omega) (by omega) (by omega)
 rw [List.map_append] at run2
 have ok2 : jA a b (F.map (fun x => wrap64 (x + 16))) (B.map (fun x => wrap64 (x + 16))) H := by
  obtain ⟨i, j, i1, j1, a1, a2, a3, a4, a5, a6, _⟩ := ok1
  refine ⟨i, j, i1, j1, a1, a2, by rw [List.length_map]; exact a3, by rw [List.length_map]; exact a4, a5, a6, 1 + 16, by omega, by omega, ?_, run2⟩
  have hc0 : 0 < (gJ (A * C)).length := by rw [kN]; omega
  have m0 : (1 : Int) ∈ F ++ B := by
   refine memOf l F B H hd _ ?_
   rw [rd1]
   have : (gJ (A * C))[0] = 1 := by rw [kH]; rfl
   rw [← this]
   exact List.getElem_mem hc0
  rw [← List.map_append]
  exact List.mem_map.2 ⟨1, m0, w64 (by omega) (by omega)⟩
 have hd2 : ∀ v ∈ l, rd H (cF A v : Int) = (if v.f3 = true then 1 else 0) ∧ cF A v < (F.map (fun x => wrap64 (x + 16))).length ∧ cB A v < (B.map (fun x => wrap64 (x + 16))).length := fun v hv => by
  obtain ⟨h1, h2, h3⟩ := hd v hv
  exact ⟨h1, by rw [List.length_map]; exact h2, by rw [List.length_map]; exact h3⟩
 obtain ⟨s1, _⟩ := right _ _ 16 (by omega) (by omega) ok2 run2 (memOf l _ _ H hd2) (by rw [sD _ A F B H l hd, rd1])
 rw [rd1] at r2
 exact ⟨A, C, F, B, H, ⟨hA8, hC8⟩, h0, h64, ha, hb, ⟨n1, n2, n3⟩, l2, ok1, r1, r2, ok2, s1⟩
def jB (a : Nat) (i : Nat) (v : SL) (x : List Int × List Int × List Int) : List Int × List Int × List Int :=
 (x.1.set (v.f1.toNat * a + v.f0.toNat) (if dn5 v = true then 2 * (i : Int) + 2 else 2 * (i : Int) + 1), x.2.1.set (v.f1.toNat * a + a - 1 - v.f0.toNat) (if dn5 v = true then 2 * (i : Int) + 1 else 2 * (i : Int) + 2), x.2.2.set (v.f1.toNat * a + v.f0.toNat) (if v.f3 = true then 1 else 0))
def kZ (a : Nat) : List SL → Nat → List Int × List Int × List Int → List Int × List Int × List Int
 | [], _, x => x
 | v :: t, i, x => kZ a t (i + 1) (jB a i v x)
theorem yn {l : List Int} {c : Nat} {v : Int} (h : l[c]? = some v) : l.set c v = l := by
 apply List.ext_getElem?
 intro j
 rw [ku]
 by_cases e : c = j ∧ j < l.length
 ·rw [if_pos e, ← e.1, h]
 ·rw [if_neg e]
theorem uR {A C : Nat} (hA : 0 < A) : ∀ (l : List SL) (i : Nat) (x : List Int × List Int × List Int), (∀ v ∈ l, inS A C v) → Apart l → (∀ v ∈ l, x.2.2[cF A v]? = some 0) → kZ A l i x = gH A l i x
 | [], _, _, _, _, _ => rfl
 | v :: t, i, x, hin, hap, hx => by
  obtain ⟨ap1, ap2⟩ := List.pairwise_cons.1 hap
  have hv := hin v List.mem_cons_self
  have x3 := hx v List.mem_cons_self
  have e : jB A i v x = jv A i v x := by
   unfold jB jv
   by_cases h3 : v.f3 = true
   ·rw [if_pos h3, if_pos h3]
   ·rw [if_neg h3, if_neg h3, yn x3]
  rw [kZ, gH, e]
  refine uR hA t (i + 1) (jv A i v x) (fun w hw => hin w (List.mem_cons_of_mem _ hw)) ap2 (fun w hw => ?_)
  have y3 := hx w (List.mem_cons_of_mem _ hw)
  show (if v.f3 = true then x.2.2.set (cF A v) 1 else x.2.2)[cF A w]? = some 0
  by_cases h3 : v.f3 = true
  ·rw [if_pos h3, ku, if_neg (fun z => ?_)]
   ·exact y3
   ·have ci := uT hA (hin w (List.mem_cons_of_mem _ hw)) hv
    have := ci.1 z.1.symm
    exact ap1 w hw ⟨this.1.symm, this.2.symm⟩
  ·rw [if_neg h3]
   exact y3
theorem ww (a i : Nat) (v : SL) (x : List Int × List Int × List Int) : (jB a i v x).1.length = x.1.length ∧ (jB a i v x).2.1.length = x.2.1.length ∧ (jB a i v x).2.2.length = x.2.2.length := by
 unfold jB
 exact ⟨by simp, by simp, by simp⟩
theorem xW (A C : Nat) (hA : A ≤ 8) (hC : C ≤ 8) (l : List SL) (hl : l.length ≤ 64) (hin : ∀ v ∈ l, 0 ≤ v.f0 ∧ v.f0 < (A : Int) ∧ 0 ≤ v.f1 ∧ v.f1 < (C : Int)) : ∀ (d i : Nat), i + d = l.length → ∀ x : List Int × List Int × List Int, x.1.length = A * C → x.2.1.length = A * C → x.2.2.length = A * C → Ev (fun k => ah.l0 k (A : Int) l (l.length : Int) (i : Int) (A : Int) (C : Int) x.1 x.2.1 x.2.2) ((A : Int), (C : Int), (kZ A (l.drop i) i x).1, (kZ A (l.drop i) i x).2.1, (kZ A (l.drop i) i x).2.2, 0) := by
 intro d
 induction d with
 | zero =>
  intro i hi x _ _ _
  rw [List.drop_of_length_le (by omega), kZ]
  exact Ev.step (f := fun _ => some ((A : Int), (C : Int), x.1, x.2.1, x.2.2, 0)) (fun k => by rw [ah.l0, if_neg (by omega)]) (Ev.now _)
 | succ d ih =>
  intro i hi x h1 h2 h3
  have hil : i < l.length := by omega
  rw [List.drop_eq_getElem_cons hil, kZ]
  have hg := uh hil
  obtain ⟨v0, v1, v2, v3⟩ := hin _ (List.getElem_mem hil)
  generalize l[i] = v at hg v0 v1 v2 v3
  have hs := ww A i v x
  have st := ih (i + 1) (by omega) (jB A i v x) (hs.1.trans h1) (hs.2.1.trans h2) (hs.2.2.trans h3)
  have g0 : (i : Int) < (l.length : Int) := by omega
  have g1 : 0 ≤ (i : Int) := by omega
  have hi64 : i ≤ 64 := by omega
  have hw := jO i (Nat.lt_of_le_of_lt hi64 (by decide))
  obtain ⟨u2, u1⟩ := wV i hi64
  obtain ⟨c1, c2, c3, c4⟩ := sJ hA hC v0 v1 v2 v3
  have ht := uV v.f3
  have f1 : ((v.f1.toNat * A + v.f0.toNat : Nat) : Int) < (x.1.length : Int) := by rw [h1]; exact Int.ofNat_lt.2 c3
  have f2 : ((v.f1.toNat * A + A - 1 - v.f0.toNat : Nat) : Int) < (x.2.1.length : Int) := by rw [h2]; exact Int.ofNat_lt.2 c4
  have f3 : ((v.f1.toNat * A + v.f0.toNat : Nat) : Int) < (x.2.2.length : Int) := by rw [h3]; exact Int.ofNat_lt.2 c3
  have z1 : 0 ≤ ((v.f1.toNat * A + v.f0.toNat : Nat) : Int) := Int.natCast_nonneg _
  have z2 : 0 ≤ ((v.f1.toNat * A + A - 1 - v.f0.toNat : Nat) : Int) := Int.natCast_nonneg _
  have J : ∀ (U D : Int) (r : Int × Int × List Int × List Int × List Int × Int), Ev (fun k => ah.l0 k (A : Int) l (l.length : Int) ((i + 1 : Nat) : Int) (A : Int) (C : Int) (x.1.set (v.f1.toNat * A + v.f0.toNat) U) (x.2.1.set (v.f1.toNat * A + A - 1 - v.f0.toNat) D) (x.2.2.set (v.f1.toNat * A + v.f0.toNat) (if v.f3 = true then 1 else 0))) r → Ev (fun k => ah.j1 k (A : Int) U D l (l.length : Int) (i : Int) (A : Int) (C : Int) x.1 x.2.1 x.2.2 v.f0 v.f1 v.f2 v.f3) r := by
   intro U D r hr
   refine Ev.step (fun k => ?_) hr
   rw [ah.j1, eT.f, c1, Option.bind_some, if_pos z1, if_pos f1, fM.f, c2, Option.bind_some, if_pos z2, if_pos f2, Option.bind_some, ht, Option.bind_some, if_pos z1, if_pos f3, Int.toNat_natCast, Int.toNat_natCast, hw]
  by_cases hd : dn5 v = true
  ·have e := J (2 * (i : Int) + 2) (2 * (i : Int) + 1) ((A : Int), (C : Int), (kZ A (l.drop (i + 1)) (i + 1) (jB A i v x)).1, (kZ A (l.drop (i + 1)) (i + 1) (jB A i v x)).2.1, (kZ A (l.drop (i + 1)) (i + 1) (jB A i v x)).2.2, 0) (by
    have st' := st
    unfold jB at st' ⊢
    rw [if_pos hd, if_pos hd] at st' ⊢
    exact st')
   refine Ev.step (fun k => ?_) e
   rw [ah.l0, if_pos g0, if_pos g1, if_pos g0, hg, gu.f, Option.bind_some, if_pos (show (v.f2 != v.f3) = true from hd), u2, u1]
  ·have e := J (2 * (i : Int) + 1) (2 * (i : Int) + 2) ((A : Int), (C : Int), (kZ A (l.drop (i + 1)) (i + 1) (jB A i v x)).1, (kZ A (l.drop (i + 1)) (i + 1) (jB A i v x)).2.1, (kZ A (l.drop (i + 1)) (i + 1) (jB A i v x)).2.2, 0) (by
    have st' := st
    unfold jB at st' ⊢
    rw [if_neg hd, if_neg hd] at st' ⊢
    exact st')
   refine Ev.step (fun k => ?_) e
   rw [ah.l0, if_pos g0, if_pos g1, if_pos g0, hg, gu.f, Option.bind_some, if_neg (show ¬ (v.f2 != v.f3) = true from hd), u2, u1]
theorem vM (a b : Int) (s : ByteArray) (hs : s.size ≤ 1048576) : ∃ r : Int × Int × List Int × List Int × List Int × Int, Ev (fun k => dB.f k a b s) r ∧ Ev (fun k => ah.f k a b s) r ∧ r.2.2.1.length ≤ 64 ∧ r.2.2.2.1.length ≤ 64 ∧ r.2.2.2.2.1.length ≤ 64 ∧ (r.2.2.2.2.2 = 0 → kQ a b s ∧ Ev (fun k => aY.f k a b s) (r.1, r.2.1, r.2.2.1, r.2.2.2.1, r.2.2.2.2.1)) := by
 obtain ⟨c, c1, c2, _, _, c3⟩ := xB a b s hs
 unfold dB.f ah.f
 by_cases hc : c = 0
 ·have hok := c3 hc
  obtain ⟨A, C, l, hA8, hC8, hA, hC, ha, hb, hl, hin, l1, l2⟩ := qE hok
  obtain ⟨l', k1, k2, _, _, _, k6, _⟩ := pz hok
  obtain rfl := ni l1 k1
  have h64 : A * C ≤ 64 := Nat.mul_le_mul hA8 hC8
  obtain ⟨n1, n2, n3⟩ := mg A l 0 (z3_ (A * C))
  have hab : wrap64 (a * b) = ((A * C : Nat) : Int) := by
   have e : a * b = ((A * C : Nat) : Int) := by rw [ha, hb]; exact (Int.natCast_mul _ _).symm
   rw [e]
   generalize A * C = n at h64
   exact w64 (by omega) (by omega)
  have st := xW A C hA8 hC8 l (by omega) hin l.length 0 (by omega) (z3_ (A * C)) (by simp [z3_]) (by simp [z3_]) (by simp [z3_])
  rw [List.drop_zero] at st
  rw [ha, hb] at k6
  rw [uR hA l 0 (z3_ (A * C)) hin (mo hin k6) (fun v hv => by
   obtain ⟨v0, v1, v2, v3⟩ := hin v hv
   obtain ⟨_, _, q3, _⟩ := sJ hA8 hC8 v0 v1 v2 v3
   exact sH q3)] at st
  obtain ⟨m0, m1, m2⟩ := si (A * C) h64
  refine ⟨(a, b, (gH A l 0 (z3_ (A * C))).1, (gH A l 0 (z3_ (A * C))).2.1, (gH A l 0 (z3_ (A * C))).2.2, 0), Ev.bind c1 (bB hc (Ev.bind l2 (Ev.now _))), ?_, ?_, ?_, ?_, fun _ => ⟨hok, l2⟩⟩
  ·refine Ev.bind c2 (bB hc ?_)
   rw [hab]
   refine bB m0 (bB m1 (Ev.bind k2 ?_))
   rw [m2]
   subst ha hb
   exact st
  ·show (gH A l 0 (z3_ (A * C))).1.length ≤ 64
   rw [n1]; simp only [z3_, List.length_replicate]; exact h64
  ·show (gH A l 0 (z3_ (A * C))).2.1.length ≤ 64
   rw [n2]; simp only [z3_, List.length_replicate]; exact h64
  ·show (gH A l 0 (z3_ (A * C))).2.2.length ≤ 64
   rw [n3]; simp only [z3_, List.length_replicate]; exact h64
 ·exact ⟨(0, 0, [], [], [], c), Ev.bind c1 (eH hc (Ev.now _)), Ev.bind c2 (eH hc (Ev.now _)), by simp, by simp, by simp, fun z => (hc z).elim⟩
theorem rA (l : List Int) (g : Int → Int) (i : Nat) (h : i < l.length) : (l.take (i + 1)).map g = (l.take i).map g ++ [g l[i]] := by
 rw [List.take_add_one, List.getElem?_eq_getElem h, List.map_append]
 rfl
theorem uW (l : List Int) (by_ : Int) (hl : l.length ≤ 1000000) : Ev (fun k => bz.f k l by_) (l.map (fun x => wrap64 (x + by_))) ∧ Ev (fun k => cu.f k l by_) (l.map (fun x => wrap64 (x + by_))) := by
 have loop : ∀ (d i : Nat), i + d = l.length → Ev (fun k => bz.l0 k l by_ ((l.take i).map (fun x => wrap64 (x + by_))) (i : Int)) (l.map (fun x => wrap64 (x + by_))) ∧ Ev (fun k => cu.l0 k by_ ((l.take i).map (fun x => wrap64 (x + by_))) l (l.length : Int) (i : Int)) (l.map (fun x => wrap64 (x + by_))) := by
  intro d
  induction d with
  | zero =>
   intro i hi
   obtain rfl : i = l.length := by omega
   rw [List.take_length]
   exact ⟨Ev.step (f := fun _ => some (l.map (fun x => wrap64 (x + by_)))) (fun k => by rw [bz.l0, if_neg (by omega)]) (Ev.now _), Ev.step (f := fun _ => some (l.map (fun x => wrap64 (x + by_)))) (fun k => by rw [cu.l0, if_neg (by omega)]) (Ev.now _)⟩
  | succ d ih =>
   intro i hi
   have hil : i < l.length := by omega
   obtain ⟨h1, h2⟩ := ih (i + 1) (by omega)
   rw [rA l _ i hil] at h1 h2
   have hlen : ((l.take i).map (fun x => wrap64 (x + by_))).length < 17592186044416 := by rw [List.length_map, List.length_take]; omega
   have w := jO i (by omega)
   refine ⟨Ev.step (fun k => ?_) h1, Ev.step (fun k => ?_) h2⟩
   ·rw [bz.l0, if_pos (by omega), if_pos (by omega), if_pos hlen, iW hil, w]
   ·rw [cu.l0, if_pos (by omega), if_pos (by omega), if_pos (by omega), if_pos hlen, iW hil, w]
 have := loop l.length 0 (by omega)
 exact ⟨Ev.congr (fun _ => by rw [bz.f]; rfl) this.1, Ev.congr (fun _ => by rw [cu.f]; rfl) this.2⟩
theorem yA (l : List Int) (h : l.length ≤ 1000000) : gG.f l = some l := by
 unfold gG.f
 simp only [Option.bind_some, List.length_nil, List.nil_append]
 rw [if_pos (by omega)]
theorem vY (l : List Int) (h0 : 0 < l.length) (h : l.length ≤ 1000000) : dV.f l = some l := by
 unfold dV.f
 rw [if_pos h0, if_pos h]
theorem qV {a b : Int} {F B H : List Int} (h : jA a b F B H) : 0 < F.length ∧ F.length ≤ 64 ∧ B.length = F.length ∧ H.length = F.length := by
 obtain ⟨i, j, i1, j1, _, _, hF, hB, hH, _⟩ := h
 have h64 : 2 ^ (i + j) ≤ 64 := Nat.le_trans (Nat.pow_le_pow_right (by omega) (show i + j ≤ 6 by omega)) (by decide)
 have hpos : 0 < 2 ^ (i + j) := Nat.pow_pos (by omega)
 exact ⟨by omega, by omega, by omega, by omega⟩
theorem nE (a b : Int) (F B H : List Int) (q : Int) (hl : H.length ≤ 1048576) : ∃ r, Ev (fun k => dA.f k a b F B H q) r ∧ Ev (fun k => dm.f k a b F B H q) r ∧ (r.2.2.2.2.2 ≠ 0 → r.1 = 0 ∧ r.2.1 = 0 ∧ r.2.2.1 = [] ∧ r.2.2.2.1 = [] ∧ r.2.2.2.2.1 = []) ∧ (r.2.2.2.2.2 = 0 → F.length ≤ 64 ∧ B.length ≤ 64 ∧ H.length ≤ 64 ∧ r = (a, b, F.map (fun x => wrap64 (x + q)), B.map (fun x => wrap64 (x + q)), H, 0)) ∧ (r.2.2.2.2.2 = 0 ↔ jA a b F B H ∧ (-1000000000 ≤ q ∧ q ≤ 1000000000) ∧ jA a b (F.map (fun x => wrap64 (x + q))) (B.map (fun x => wrap64 (x + q))) H) := by
 obtain ⟨v, v1, v2, v3⟩ := kz a b F B H hl
 cases v with
 | false =>
  refine ⟨(0, 0, [], [], [], 1), ?_, ?_, fun _ => ⟨rfl, rfl, rfl, rfl, rfl⟩, (fun z => by cases z), (fun z => by cases z), fun z => by cases v3.2 z.1⟩
  ·unfold dA.f
   exact Ev.bind v1 (eH (by simp) (Ev.now _))
  ·unfold dm.f
   exact Ev.bind v2 (eH (by simp) (Ev.now _))
 | true =>
  have hok := v3.1 rfl
  obtain ⟨h0, h64, hB, hH⟩ := qV hok
  by_cases c : -1000000000 ≤ q ∧ q ≤ 1000000000
  ·obtain ⟨u, u1, u2, u3⟩ := kz a b (F.map (fun x => wrap64 (x + q))) (B.map (fun x => wrap64 (x + q))) H hl
   have hs : ∀ r, (u = true → r = (a, b, F.map (fun x => wrap64 (x + q)), B.map (fun x => wrap64 (x + q)), H, (0 : Int))) → (u = false → r = (0, 0, [], [], [], 3)) → Ev (fun k => dA.f k a b F B H q) r ∧ Ev (fun k => dm.f k a b F B H q) r := by
    intro r r1 r2
    have F1 := uW F q (by omega)
    have B1 := uW B q (by omega)
    constructor
    ·unfold dA.f
     refine Ev.bind v1 (bB rfl (Ev.bind (Ev.congr (fun _ => lH _ _ _) (Ev.now _)) (bB (decide_eq_true c) (Ev.bind F1.1 (Ev.bind B1.1 (Ev.bind (Ev.congr (fun _ => yA H (by omega)) (Ev.now _)) (Ev.bind u1 ?_)))))))
     cases u with
     | true => rw [r1 rfl]; exact bB rfl (Ev.now _)
     | false => rw [r2 rfl]; exact eH (by simp) (Ev.now _)
    ·unfold dm.f
     refine Ev.bind v2 (bB rfl (Ev.bind (Ev.congr (fun _ => kJ _ _ _) (Ev.now _)) (bB (decide_eq_true c) (Ev.bind F1.2 (Ev.bind B1.2 (Ev.bind (Ev.congr (fun _ => vY H (by omega) (by omega)) (Ev.now _)) (Ev.bind u2 ?_)))))))
     cases u with
     | true => rw [r1 rfl]; exact bB rfl (Ev.now _)
     | false => rw [r2 rfl]; exact eH (by simp) (Ev.now _)
   cases u with
   | true =>
    obtain ⟨e1, e2⟩ := hs _ (fun _ => rfl) (fun z => by cases z)
    exact ⟨_, e1, e2, fun z => (z rfl).elim, fun _ => ⟨h64, by omega, by omega, rfl⟩, fun _ => ⟨hok, c, u3.1 rfl⟩, fun _ => rfl⟩
   | false =>
    obtain ⟨e1, e2⟩ := hs _ (fun z => by cases z) (fun _ => rfl)
    exact ⟨_, e1, e2, fun _ => ⟨rfl, rfl, rfl, rfl, rfl⟩, (fun z => by cases z), (fun z => by cases z), fun z => by cases u3.2 z.2.2⟩
  ·refine ⟨(0, 0, [], [], [], 2), ?_, ?_, fun _ => ⟨rfl, rfl, rfl, rfl, rfl⟩, (fun z => by cases z), (fun z => by cases z), fun z => (c z.2.1).elim⟩
   ·unfold dA.f
    exact Ev.bind v1 (bB rfl (Ev.bind (Ev.congr (fun _ => lH _ _ _) (Ev.now _)) (eH (by simpa using c) (Ev.now _))))
   ·unfold dm.f
    exact Ev.bind v2 (bB rfl (Ev.bind (Ev.congr (fun _ => kJ _ _ _) (Ev.now _)) (eH (by simpa using c) (Ev.now _))))
def EvP {α : Type} (f : Nat → Option α) (P : α → Prop) : Prop := ∃ r, Ev f r ∧ P r
theorem EvP.bind {α β : Type} {g : Nat → Option α} {f : Nat → α → Option β} {a : α} {P : β → Prop} (h : Ev g a) (k : EvP (fun n => f n a) P) : EvP (fun n => (g n).bind (f n)) P := by
 obtain ⟨r, k, p⟩ := k
 exact ⟨r, Ev.bind h k, p⟩
theorem EvP.ko {α : Type} {c : Prop} [Decidable c] {f g : Nat → Option α} {P : α → Prop} (h : c) (k : EvP f P) : EvP (fun n => if c then f n else g n) P := by
 obtain ⟨r, k, p⟩ := k
 exact ⟨r, bB h k, p⟩
theorem EvP.qN {α : Type} {c : Prop} [Decidable c] {f g : Nat → Option α} {P : α → Prop} (h : ¬ c) (k : EvP g P) : EvP (fun n => if c then f n else g n) P := by
 obtain ⟨r, k, p⟩ := k
 exact ⟨r, eH h k, p⟩
theorem EvP.now {α : Type} {a : α} {P : α → Prop} (p : P a) : EvP (fun _ => some a) P := ⟨a, Ev.now a, p⟩
theorem EvP.step {α : Type} {f g : Nat → Option α} {P : α → Prop} (h : ∀ k, f (k + 1) = g k) (k : EvP g P) : EvP f P := by
 obtain ⟨r, k, p⟩ := k
 exact ⟨r, Ev.step h k, p⟩
theorem Ev.eq {α : Type} {x : Option α} {a : α} (h : x = some a) : Ev (fun _ : Nat => x) a := Ev.congr (fun _ => h) (Ev.now _)
def Src (c : List Int) (a s : Int) : Prop := c.length ≤ 4096 ∧ (∀ x ∈ c, 0 ≤ x ∧ x ≤ 255) ∧ 0 ≤ a ∧ a ≤ c.length ∧ 0 ≤ s ∧ s < 2147483647
theorem kD {x m : Int} (h : 0 ≤ x) (hm : 0 < m) : 0 ≤ Int.tmod x m ∧ Int.tmod x m < m := ⟨Int.tmod_nonneg _ h, Int.tmod_lt_of_pos _ hm⟩
theorem wY {c : List Int} (hc : ∀ x ∈ c, 0 ≤ x ∧ x ≤ 255) (i : Int) : 0 ≤ rd c i ∧ rd c i ≤ 255 := by
 unfold rd
 by_cases h : i.toNat < c.length
 ·simp only [List.getD_eq_getElem?_getD, List.getElem?_eq_getElem h, Option.getD_some]
  exact hc _ (List.getElem_mem h)
 ·simp only [List.getD_eq_getElem?_getD, List.getElem?_eq_none (Nat.le_of_not_lt h), Option.getD_none]
  omega
theorem jN {c : List Int} {a s : Int} (h : Src c a s) (n : Int) (hn : n ≤ 9000000000000000000) :
  ∃ r a' s', bf.f c a s n = some (r, a', s') ∧ Src c a' s' ∧ 0 ≤ r ∧ (1 ≤ n → r < n) := by
 obtain ⟨h1, h2, h3, h4, h5, h6⟩ := h
 unfold bf.f
 by_cases hn1 : n ≤ 1
 ·rw [if_pos hn1]
  exact ⟨0, a, s, rfl, ⟨h1, h2, h3, h4, h5, h6⟩, by omega, by omega⟩
 ·rw [if_neg hn1]
  have e1 : wrap64 (wrap64 (s * 48271) + 61) = s * 48271 + 61 := by rw [w64 (x := s * 48271) (by omega) (by omega), w64 (by omega) (by omega)]
  rw [e1]
  have m1 := kD (x := s * 48271 + 61) (m := 2147483647) (by omega) (by omega)
  generalize Int.tmod (s * 48271 + 61) 2147483647 = s1 at *
  have d1 : 0 ≤ Int.tdiv s1 31 ∧ Int.tdiv s1 31 ≤ 2147483647 := by
   rw [Int.tdiv_eq_ediv_of_nonneg m1.1]; omega
  rw [w64 (x := Int.tdiv s1 31) (by omega) (by omega)]
  generalize Int.tdiv s1 31 = q at *
  by_cases ha : a < (c.length : Int)
  ·have e2 : wrap64 (a + 1) = a + 1 := w64 (by omega) (by omega)
   have e3 : wrap64 (a + 1 - 1) = a := by rw [w64 (by omega) (by omega)]; omega
   have b1 := wY h2 a
   rw [if_pos ha, if_pos h3, e2, e3, w64 (x := rd c a) (by omega) (by omega), w64 (x := q + rd c a) (by omega) (by omega)]
   have r1 := kD (x := rd c a) (m := n) b1.1 (by omega)
   have r2 := kD (x := q + rd c a) (m := n) (by omega) (by omega)
   have hs : Src c (a + 1) s1 := ⟨h1, h2, by omega, by omega, m1.1, m1.2⟩
   by_cases hb : n ≤ 256
   ·rw [if_pos hb]
    by_cases hc : Int.tmod (a + 1) 2 = 0
    ·rw [if_pos hc, if_pos h3, if_pos ha, if_neg (by omega)]
     exact ⟨_, _, _, rfl, hs, r1.1, fun _ => r1.2⟩
    ·rw [if_neg hc, if_neg (by omega)]
     exact ⟨_, _, _, rfl, hs, r2.1, fun _ => r2.2⟩
   ·rw [if_neg hb, if_neg (by omega)]
    exact ⟨_, _, _, rfl, hs, r2.1, fun _ => r2.2⟩
  ·rw [if_neg ha, if_neg (by omega)]
   have r1 := kD (x := q) (m := n) (by omega) (by omega)
   exact ⟨_, _, _, rfl, ⟨h1, h2, h3, h4, m1.1, m1.2⟩, r1.1, fun _ => r1.2⟩
theorem zV (c : List Int) (hc : c.length ≤ 4096) (hb : ∀ x ∈ c, 0 ≤ x ∧ x ≤ 255) : ∃ a s, Ev (fun k => bP.f k c) (c, a, s) ∧ Src c a s := by
 have loop : ∀ (d i : Nat), i + d = c.length → ∀ s : Int, 0 ≤ s → s < 2147483647 → ∃ s', 0 ≤ s' ∧ s' < 2147483647 ∧ Ev (fun k => bP.l0 k c (i : Int) c 0 s) (c, 0, s') := by
  intro d
  induction d with
  | zero =>
   intro i hi s h0 h1
   exact ⟨s, h0, h1, Ev.step (f := fun _ => some (c, 0, s)) (fun k => by rw [bP.l0, if_neg (by omega)]) (Ev.now _)⟩
  | succ d ih =>
   intro i hi s h0 h1
   by_cases h64 : i < 64
   ·have b1 := wY hb (i : Int)
    have e1 : wrap64 (wrap64 (s * 71) + wrap64 (rd c (i : Int))) = s * 71 + rd c (i : Int) := by
     rw [w64 (x := s * 71) (by omega) (by omega), w64 (x := rd c (i : Int)) (by omega) (by omega), w64 (by omega) (by omega)]
    have m1 := kD (x := s * 71 + rd c (i : Int)) (m := 2147483647) (by omega) (by omega)
    obtain ⟨s', g0, g1, g2⟩ := ih (i + 1) (by omega) (Int.tmod (s * 71 + rd c (i : Int)) 2147483647) m1.1 m1.2
    refine ⟨s', g0, g1, Ev.step (fun k => ?_) g2⟩
    rw [bP.l0, if_pos (by omega), if_pos (by omega), if_pos (by omega), jO i (by omega), e1]
   ·exact ⟨s, h0, h1, Ev.step (f := fun _ => some (c, 0, s)) (fun k => by rw [bP.l0, if_pos (by omega), if_neg (by omega)]) (Ev.now _)⟩
 obtain ⟨s', g0, g1, g2⟩ := loop c.length 0 (by omega) 88007 (by omega) (by omega)
 exact ⟨0, s', Ev.congr (fun k => rfl) g2, hc, hb, by omega, by omega, g0, g1⟩
theorem nX {c : List Int} {a s : Int} (h : Src c a s) (l : List Int) (h0 : 0 < l.length) (h1 : l.length ≤ 1000) :
  ∃ r a' s', dQ.f c a s l = some (r, a', s') ∧ Src c a' s' ∧ r ∈ l := by
 obtain ⟨r, a', s', e, hs, h2, h3⟩ := jN h (l.length : Int) (by omega)
 have h4 := h3 (by omega)
 unfold dQ.f
 rw [e]
 simp only [Option.bind_some]
 rw [if_pos h2, if_pos h4]
 refine ⟨_, _, _, rfl, hs, ?_⟩
 obtain ⟨m, rfl⟩ := Int.eq_ofNat_of_zero_le h2
 exact tY (by omega)
theorem wE (l : List Int) : (strOfNums l).size = l.length := by
 show (List.map _ l).toArray.size = _
 simp
theorem pG {c : List Int} {a s : Int} (h : Src c a s) : ∃ r a' s', eQ.f c a s = some (r, a', s') ∧ Src c a' s' ∧ -1 ≤ r ∧ r ≤ 16 := by
 obtain ⟨m, a1, s1, e1, h1, _, _⟩ := jN h 40 (by omega)
 unfold eQ.f
 rw [e1]
 simp only [Option.bind_some]
 by_cases hm : m = 0
 ·obtain ⟨r, a2, s2, e2, h2, h3⟩ := nX h1 [0, 3, (-1), 16] (by simp) (by simp)
  rw [if_pos hm, e2]
  refine ⟨r, a2, s2, rfl, h2, ?_⟩
  simp only [List.mem_cons, List.not_mem_nil, or_false] at h3
  omega
 ·obtain ⟨r, a2, s2, e2, h2, h3⟩ := nX h1 [1, 2, 2, 4, 4, 8] (by simp) (by simp)
  rw [if_neg hm, e2]
  refine ⟨r, a2, s2, rfl, h2, ?_⟩
  simp only [List.mem_cons, List.not_mem_nil, or_false] at h3
  omega
theorem vI (a : Int) : ∃ (j : Nat) (q : Bool), j ≤ 3 ∧ bL.f a = some ((j : Int), q) := by
 unfold bL.f
 by_cases h1 : a = 1
 ·exact ⟨0, true, by decide, if_pos h1⟩
 by_cases h2 : a = 2
 ·exact ⟨1, true, by decide, by rw [if_neg h1, if_pos h2]; rfl⟩
 by_cases h4 : a = 4
 ·exact ⟨2, true, by decide, by rw [if_neg h1, if_neg h2, if_pos h4]; rfl⟩
 by_cases h8 : a = 8
 ·exact ⟨3, true, by decide, by rw [if_neg h1, if_neg h2, if_neg h4, if_pos h8]; rfl⟩
 ·exact ⟨0, false, by decide, by rw [if_neg h1, if_neg h2, if_neg h4, if_neg h8]; rfl⟩
theorem oh {c : List Int} {a s : Int} (h0 : Src c a s) : ∃ w h t a' s', Ev (fun k => bS.f k c a s) (w, h, t, a', s') ∧ Src c a' s' ∧ t.size ≤ 7 ∧ -1 ≤ w ∧ w ≤ 16 ∧ -1 ≤ h ∧ h ≤ 16 := by
 obtain ⟨w, a1, s1, e1, h1, w0, w1⟩ := pG h0
 obtain ⟨h, a2, s2, e2, h2, v0, v1⟩ := pG h1
 obtain ⟨i, qi, i1, e3⟩ := vI w
 obtain ⟨j, qj, j1, e4⟩ := vI h
 have loop : ∀ (d i j : Nat) (x : List Int) (a s : Int), i + j = d → Src c a s → x.length + d ≤ 6 → ∃ t a' s', Ev (fun k => bS.l0 k w h (i : Int) (j : Int) x c a s) (w, h, t, a', s') ∧ Src c a' s' ∧ t.size ≤ 7 := by
  intro d
  induction d with
  | zero =>
   intro i j x a s hd h hx
   obtain ⟨m, a2, s2, e2, h2, m0, _⟩ := jN h 40 (by omega)
   have hz := wE x
   have hg : ¬ wrap64 ((i : Int) + (j : Int)) > 0 := by rw [w64 (by omega) (by omega)]; omega
   by_cases m1 : m = 0
   ·refine ⟨_, a2, s2, Ev.step (f := fun _ => some (w, _, (strOfNums x) ++ (⟨#[76]⟩ : ByteArray), a2, s2)) (fun k => ?_) (Ev.now _), h2, ?_⟩
    ·rw [bS.l0, if_neg hg, e2]
     simp only [Option.bind_some]
     rw [if_pos m1, if_pos (by omega)]
    ·rw [ByteArray.size_append]
     show (strOfNums x).size + 1 ≤ 7
     omega
   ·by_cases m2 : m = 1
    ·refine ⟨_, a2, s2, Ev.step (f := fun _ => some (w, _, (⟨#[120]⟩ : ByteArray), a2, s2)) (fun k => ?_) (Ev.now _), h2, (show 1 ≤ 7 by omega)⟩
     rw [bS.l0, if_neg hg, e2]
     simp only [Option.bind_some]
     rw [if_neg m1, if_pos m2]
    ·refine ⟨_, a2, s2, Ev.step (f := fun _ => some (w, _, strOfNums x, a2, s2)) (fun k => ?_) (Ev.now _), h2, by omega⟩
     rw [bS.l0, if_neg hg, e2]
     simp only [Option.bind_some]
     rw [if_neg m1, if_neg m2]
  | succ d ih =>
   intro i j x a s hd h hx
   have hw : wrap64 ((i : Int) + (j : Int)) = (i : Int) + (j : Int) := w64 (by omega) (by omega)
   have hg : wrap64 ((i : Int) + (j : Int)) > 0 := by rw [hw]; omega
   obtain ⟨p, a1, s1, e1, h1, p0, p1⟩ := jN h ((i : Int) + (j : Int)) (by omega)
   have p2 := p1 (by omega)
   obtain ⟨m, a2, s2, e2, h2, m0, m1⟩ := jN h1 2 (by omega)
   have m2 := m1 (by omega)
   by_cases hp : p < (i : Int)
   ·obtain ⟨t, a', s', g1, g2, g3⟩ := ih (i - 1) j (x ++ [bt (⟨#[76, 82]⟩ : ByteArray) m]) a2 s2 (by omega) h2 (by rw [List.length_append]; simp; omega)
    refine ⟨t, a', s', Ev.step (fun k => ?_) g1, g2, g3⟩
    rw [bS.l0, if_pos hg, hw, e1]
    simp only [Option.bind_some]
    rw [if_pos hp, e2]
    simp only [Option.bind_some]
    rw [if_pos m0, if_pos m2, if_pos (by omega), w64 (x := (i : Int) - 1) (by omega) (by omega), show (i : Int) - 1 = ((i - 1 : Nat) : Int) by omega]
   ·obtain ⟨t, a', s', g1, g2, g3⟩ := ih i (j - 1) (x ++ [bt (⟨#[84, 66]⟩ : ByteArray) m]) a2 s2 (by omega) h2 (by rw [List.length_append]; simp; omega)
    refine ⟨t, a', s', Ev.step (fun k => ?_) g1, g2, g3⟩
    rw [bS.l0, if_pos hg, hw, e1]
    simp only [Option.bind_some]
    rw [if_neg hp, e2]
    simp only [Option.bind_some]
    rw [if_pos m0, if_pos m2, if_pos (by omega), w64 (x := (j : Int) - 1) (by omega) (by omega), show (j : Int) - 1 = ((j - 1 : Nat) : Int) by omega]
 obtain ⟨t, a', s', g1, g2, g3⟩ := loop (i + j) i j [] a2 s2 rfl h2 (by simp; omega)
 refine ⟨w, h, t, a', s', ?_, g2, g3, w0, w1, v0, v1⟩
 unfold bS.f
 simp only [e1, e2, e3, e4, Option.bind_some]
 exact g1
theorem qC (l : List Int) (g : Int → Int) (i : Nat) (h : i < l.length) : (l.take (i + 1)).map g = (l.take i).map g ++ [g l[i]] := by
 rw [List.take_add_one, List.getElem?_eq_getElem h, List.map_append]
 rfl
theorem rV (l : List Int) (by_ : Int) (hl : l.length ≤ 1000000) : Ev (fun k => bz.f k l by_) (l.map (fun x => wrap64 (x + by_))) := by
 have loop : ∀ (d i : Nat), i + d = l.length → Ev (fun k => bz.l0 k l by_ ((l.take i).map (fun x => wrap64 (x + by_))) (i : Int)) (l.map (fun x => wrap64 (x + by_))) := by
  intro d
  induction d with
  | zero =>
   intro i hi
   obtain rfl : i = l.length := by omega
   rw [List.take_length]
   exact Ev.step (f := fun _ => some (l.map (fun x => wrap64 (x + by_)))) (fun k => by rw [bz.l0, if_neg (by omega)]) (Ev.now _)
  | succ d ih =>
   intro i hi
   have hil : i < l.length := by omega
   have h1 := ih (i + 1) (by omega)
   rw [qC l _ i hil] at h1
   have hlen : ((l.take i).map (fun x => wrap64 (x + by_))).length < 17592186044416 := by rw [List.length_map, List.length_take]; omega
   have w := jO i (by omega)
   refine Ev.step (fun k => ?_) h1
   rw [bz.l0, if_pos (by omega), if_pos (by omega), if_pos hlen, iW hil, w]
 exact Ev.congr (fun _ => by rw [bz.f]; rfl) (loop l.length 0 (by omega))
theorem zz (a b : Int) (s : ByteArray) (hs : s.size ≤ 1048576) : EvP (fun k => dB.f k a b s) (fun r => (r.2.2.2.2.2 = 0 → kQ a b s ∧ 0 < r.2.2.1.length ∧ r.2.2.1.length ≤ 64 ∧ r.2.2.2.1.length = r.2.2.1.length ∧ r.2.2.2.2.1.length = r.2.2.1.length)) := by
 obtain ⟨c, c1, c2, c3, c4⟩ := Ce a b s hs
 unfold dB.f
 refine EvP.bind c1 ?_
 by_cases hc : c = 0
 ·obtain ⟨A, C, l, hA, hC, hA0, hC0, ha, hb, hl, hin, h1, h2⟩ := qE (c4 hc)
  have h64 : A * C ≤ 64 := Nat.mul_le_mul hA hC
  have h0 : 0 < A * C := Nat.mul_pos hA0 hC0
  refine EvP.ko hc (EvP.bind h2 (EvP.now ?_))
  intro _
  obtain ⟨q1, q2, q3⟩ := mg A l 0 (z3_ (A * C))
  simp only [z3_, List.length_replicate] at q1 q2 q3 ⊢
  exact ⟨c4 hc, by omega, by omega, by omega, by omega⟩
 ·exact EvP.qN hc (EvP.now (fun z => (hc z).elim))
theorem ut {c : List Int} {a s : Int} (h0 : Src c a s) : EvP (fun k => aU.f k c a s) (fun r => Src c r.2.2.2.2.2.2.1 r.2.2.2.2.2.2.2 ∧ 0 < r.2.2.1.length ∧ r.2.2.1.length ≤ 100 ∧ r.2.2.2.1.length ≤ 100 ∧ r.2.2.2.2.1.length ≤ 100 ∧ r.2.2.2.2.2.1.size ≤ 7) := by
 obtain ⟨w, h, t, a1, s1, d1, h1, ht, _, _, _, _⟩ := oh h0
 obtain ⟨⟨w', h', F, B, H, e⟩, i1, i2⟩ := zz w h t (by omega)
 unfold aU.f
 refine EvP.bind d1 (EvP.bind i1 ?_)
 simp only at i2
 by_cases he : e = 0
 ·obtain ⟨_, f0, f1, f2, f3⟩ := i2 he
  refine EvP.ko he ?_
  obtain ⟨m, a2, s2, e2, h2, m0, _⟩ := jN h1 200 (by omega)
  obtain ⟨q, a3, s3, e3, h3, _⟩ := nX h2 [0, 0, 16, m] (by simp) (by simp)
  have sF := rV F q (by omega)
  have sB := rV B q (by omega)
  have lF : (F.map (fun x => wrap64 (x + q))).length = F.length := by simp
  have lB : (B.map (fun x => wrap64 (x + q))).length = B.length := by simp
  generalize F.map (fun x => wrap64 (x + q)) = F' at sF lF
  generalize B.map (fun x => wrap64 (x + q)) = B' at sB lB
  obtain ⟨k, a4, s4, e4, h4, k0, k1⟩ := jN h3 (F'.length : Int) (by omega)
  have k2 : k < (F'.length : Int) := k1 (by omega)
  obtain ⟨z, a5, s5, e5, h5, _, _⟩ := jN h4 16 (by omega)
  refine EvP.bind (Ev.eq e2) (EvP.bind (Ev.eq e3) (EvP.bind sF (EvP.bind sB (EvP.bind (Ev.eq e4) (EvP.bind (Ev.eq e5) ?_)))))
  have fin : ∀ (F B H : List Int) (a' s' : Int), Src c a' s' → 0 < F.length → F.length ≤ 100 → B.length ≤ 100 → H.length ≤ 100 → EvP (fun k => aU.j0 k t c a' s' w' h' F B H) (fun r => Src c r.2.2.2.2.2.2.1 r.2.2.2.2.2.2.2 ∧ 0 < r.2.2.1.length ∧ r.2.2.1.length ≤ 100 ∧ r.2.2.2.1.length ≤ 100 ∧ r.2.2.2.2.1.length ≤ 100 ∧ r.2.2.2.2.2.1.size ≤ 7) := fun F B H a' s' p1 p2 p3 p4 p5 =>
   EvP.step (g := fun _ => some (w', h', F, B, H, t, a', s')) (fun k => by rw [aU.j0]) (EvP.now ⟨p1, p2, p3, p4, p5, ht⟩)
  have hH : H.length ≤ 100 := by omega
  have hk : k < (H.length : Int) := by omega
  have hk2 : k < (B'.length : Int) := by omega
  have hH1 : H.length < 17592186044416 := by omega
  have a1_ : 0 < F'.length := by omega
  have a2_ : F'.length ≤ 100 := by omega
  have a3_ : B'.length ≤ 100 := by omega
  have st : ∀ (l : List Int) (q : Nat) (v : Int), (l.set q v).length = l.length := fun l q v => List.length_set
  by_cases z0 : z = 0
  ·exact EvP.ko z0 (EvP.ko k0 (EvP.ko hk (fin _ _ _ _ _ h5 a1_ a2_ a3_ (by rw [st]; exact hH))))
  refine EvP.qN z0 ?_
  by_cases z1 : z = 1
  ·exact EvP.ko z1 (EvP.ko k0 (EvP.ko k2 (EvP.ko hk2 (fin _ _ _ _ _ h5 (by rw [st]; exact a1_) (by rw [st]; exact a2_) (by rw [st]; exact a3_) hH))))
  refine EvP.qN z1 ?_
  by_cases z2 : z = 2
  ·obtain ⟨u, a6, s6, e6, h6, _⟩ := nX h5 [0, 1, rd F' 0, 1000000000] (by simp) (by simp)
   exact EvP.ko z2 (EvP.ko (by omega) (EvP.bind (Ev.eq e6) (EvP.ko k0 (EvP.ko k2 (fin _ _ _ _ _ h6 (by rw [st]; exact a1_) (by rw [st]; exact a2_) a3_ hH)))))
  refine EvP.qN z2 ?_
  by_cases z3 : z = 3
  ·obtain ⟨u, a6, s6, e6, h6, _, _⟩ := jN h5 3 (by omega)
   refine EvP.ko z3 (EvP.bind (Ev.eq e6) ?_)
   by_cases u0 : u = 0
   ·exact EvP.ko u0 (EvP.ko hH1 (fin _ _ _ _ _ h6 a1_ a2_ a3_ (by rw [List.length_append]; show H.length + 1 ≤ 100; omega)))
   ·exact EvP.qN u0 (fin _ _ _ _ _ h6 a1_ a2_ a3_ hH)
  exact EvP.qN z3 (fin _ _ _ _ _ h5 a1_ a2_ a3_ hH)
 ·exact EvP.qN he (EvP.now ⟨h1, by simp, by simp, by simp, by simp, ht⟩)
theorem mh (l : List Int) (hl : l.length ≤ 35184372088832) : Ev (fun k => bF.f k l l) true := by
 have loop : ∀ (d i : Nat), i + d = l.length → Ev (fun k => bF.l0 k l l (i : Int)) true := by
  intro d
  induction d with
  | zero =>
   intro i hi
   refine Ev.step (f := fun _ => some true) (fun k => by rw [bF.l0, if_neg (by omega)]) (Ev.now _)
  | succ d ih =>
   intro i hi
   refine Ev.step (f := fun k => bF.l0 k l l ((i + 1 : Nat) : Int)) (fun k => by rw [bF.l0, if_pos (by omega), if_pos (by omega), if_pos (by omega), if_pos rfl, jO i (by omega)]) ?_
   exact ih (i + 1) (by omega)
 refine Ev.congr (f := fun k => bF.l0 k l l ((0 : Nat) : Int)) (fun k => ?_) (loop l.length 0 (by omega))
 simp only [bF.f, if_true]
 rfl
theorem nS (a b : Int) (F B H : List Int) (l1 : F.length ≤ 1048576) (l2 : B.length ≤ 1048576) (l3 : H.length ≤ 1048576) : Ev (fun k => dP.f k a b F B H a b F B H) true := by
 unfold dP.f
 exact bB rfl (bB rfl (Ev.bind (mh F (by omega)) (bB rfl (Ev.bind (mh B (by omega)) (bB rfl (Ev.bind (mh H (by omega)) (Ev.now _)))))))
theorem BZ {i j : Nat} (h : ((2 ^ i : Nat) : Int) = ((2 ^ j : Nat) : Int)) : i = j := (Nat.pow_right_inj (by omega : 1 < 2)).1 (Int.ofNat.inj h)
theorem oU {i : Nat} (hi : i ≤ 3) : fC.f ((2 ^ i : Nat) : Int) = some true := by
 have h : ∀ i : Fin 4, fC.f ((2 ^ i.val : Nat) : Int) = some true := by decide +kernel
 exact h ⟨i, by omega⟩
theorem wR {i : Nat} (hi : i ≤ 3) : Ev (fun k => bY.f k ((2 ^ i : Nat) : Int)) (i : Int) := by
 rcases jE ((2 ^ i : Nat) : Int) with ⟨j, _, j2, _, _, j5⟩ | ⟨_, j4⟩
 ·rw [← BZ j2] at j5
  exact j5
 ·rw [oU hi] at j4
  cases j4
theorem vF {a b : Int} {s : ByteArray} (h : kQ a b s) : Ev (fun k => dK.f k a b s) true := by
 obtain ⟨i, j, hi, hj, ha, hb, hall, hl, hn⟩ := h
 have hz : s.size = s.data.toList.length := by simp
 have hlr : kS s = lrc s.data.toList := rfl
 subst ha hb
 have hsh : dn.f ((2 ^ i : Nat) : Int) ((2 ^ j : Nat) : Int) = some true := by unfold dn.f; rw [oU hi, oU hj]; rfl
 unfold dK.f
 rw [hsh]
 have e : decide ((s.size : Int) - (kS s : Int) = (j : Int)) = true := decide_eq_true (by rw [hlr, hl]; omega)
 exact Ev.bind (Ev.now _) (bB rfl (bB (by omega) (bB ((qG _ _).2 hall) (Ev.bind (wR hi) (bB (by rw [hlr, hl]) (Ev.bind (wR hj) (Ev.congr (fun k => congrArg some e) (Ev.now true))))))))
theorem ol {a b : Int} {F B H : List Int} {s : ByteArray} (hf : jA a b F B H) (hs : kQ a b s) : Ev (fun k => ed.f k a b F B H s) 0 := by
 obtain ⟨_, h64, _, hH⟩ := qV hf
 obtain ⟨v, _, v2, v3⟩ := kz a b F B H (by omega)
 rw [v3.2 hf] at v2
 unfold ed.f
 exact Ev.bind v2 (bB rfl (Ev.bind (vF hs) (bB rfl (Ev.now _))))
theorem oD {a b : Int} {F B H : List Int} {s : ByteArray} (hf : jA a b F B H) (hs : kQ a b s) (hr : Ev (fun k => bM.f k a b F B H s) true) : Ev (fun k => dY.f k a b F B H s) (true, 0) := by
 unfold dY.f
 exact Ev.bind (ol hf hs) (bB rfl (Ev.bind hr (Ev.now _)))
theorem FnImposed : aQ.Pure := by
 intro l0 _ _ hw
 apply Ev.rounds
 unfold aQ.f kI.f
 refine Ev.bind (Ev.now _) ?_
 by_cases hb : (l0.length : Int) > 4096
 ·exact bB (decide_eq_true hb) (Ev.now _)
 refine eH (by simpa using hb) ?_
 obtain ⟨at0, sd0, e0, h0⟩ := zV l0 (by omega) (fun x hx => wf8 (hw x hx))
 obtain ⟨w, h, t, a1, s1, d1, h1, ht, _, _, _, _⟩ := oh h0
 have hdi : Ev (fun k => dO.f k l0) (w, h, t) := by
  unfold dO.f
  exact Ev.bind e0 (Ev.bind d1 (Ev.now _))
 obtain ⟨⟨a, b, F, B, H, e⟩, i1, i2, i3, i4, i5, i6⟩ := vM w h t (by omega)
 simp only at i3 i4 i5 i6
 obtain ⟨⟨a', b', F', B', H', t', a2, s2⟩, c1, c2⟩ := ut h0
 obtain ⟨c2, f0, f1, f2, f3, f4⟩ := c2
 simp only at c2 f0 f1 f2 f3 f4
 have hds : ∃ q, Ev (fun k => dX.f k l0) (a', b', F', B', H', q) := by
  unfold dX.f
  obtain ⟨m, a3, s3, e3, h3, _, _⟩ := jN c2 8 (by omega)
  by_cases hm : m = 0
  ·obtain ⟨q, a4, s4, e4, _, _⟩ := nX h3 [(-1000000000), 1000000000, (-1000000001), 1000000001] (by simp) (by simp)
   exact ⟨q, Ev.bind e0 (Ev.bind c1 (Ev.bind (Ev.eq e3) (bB hm (Ev.bind (Ev.eq e4) (Ev.now _)))))⟩
  ·obtain ⟨q, a4, s4, e4, _, _, _⟩ := jN h3 60 (by omega)
   exact ⟨wrap64 (q - 20), Ev.bind e0 (Ev.bind c1 (Ev.bind (Ev.eq e3) (eH hm (Ev.bind (Ev.eq e4) (Ev.now _)))))⟩
 obtain ⟨q, hds⟩ := hds
 obtain ⟨⟨c, d, F2, B2, H2, e2⟩, t1, t2, t3, t4, _⟩ := nE a' b' F' B' H' q (by omega)
 have hl : F2.length ≤ 1048576 ∧ B2.length ≤ 1048576 ∧ H2.length ≤ 1048576 := by
  by_cases z : e2 = 0
  ·obtain ⟨p1, p2, p3, z⟩ := t4 z
   simp only [Prod.mk.injEq] at z
   obtain ⟨_, _, rfl, rfl, rfl, _⟩ := z
   exact ⟨by rw [List.length_map]; omega, by rw [List.length_map]; omega, by omega⟩
  ·obtain ⟨_, _, z3, z4, z5⟩ := t3 z
   simp only at z3 z4 z5
   rw [z3, z4, z5]
   simp
 obtain ⟨v, v1, v2, _⟩ := kz a' b' F' B' H' (by omega)
 refine Ev.bind hdi (Ev.bind i2 (Ev.bind i1 (Ev.bind hds (Ev.bind t2 (Ev.bind t1 (bB rfl (Ev.bind (nS a b F B H (by omega) (by omega) (by omega)) (bB rfl (bB rfl (Ev.bind (nS c d F2 B2 H2 hl.1 hl.2.1 hl.2.2) (bB rfl (Ev.bind v2 (Ev.bind v1 ?_)))))))))))))
 refine Ev.step (fun k => by rw [aQ.j0, if_neg (by simp)]) ?_
 by_cases he : e = 0
 ·obtain ⟨hok, i7⟩ := i6 he
  obtain ⟨A, C, F3, B3, H3, ⟨A8, C8⟩, A0, A64, ha, hb', ⟨n1, n2, n3⟩, r0, r1, r2, r3, r4, r5⟩ := rE hok
  have eq := ni i7 r0
  simp only [Prod.mk.injEq] at eq
  obtain ⟨rfl, rfl, rfl, rfl, rfl⟩ := eq
  have hrf : Ev (fun k => fP.f k a b F B H t) (gJ (A * C), 0) := by
   unfold fP.f
   exact Ev.bind (ol r1 hok) (bB rfl (Ev.bind r3 (Ev.now _)))
  obtain ⟨rs, _, p2, _, p4, p5⟩ := nE a b F B H 16 (by omega)
  have p0 := p5.2 ⟨r1, ⟨by omega, by omega⟩, r4⟩
  obtain ⟨_, _, _, p6⟩ := p4 p0
  subst p6
  refine bB he (Ev.bind (oD r1 hok r2) (Ev.bind hrf (Ev.bind p2 (Ev.bind (oD r4 hok r5) (bB rfl (bB rfl (bB rfl (bB rfl (bB rfl ?_)))))))))
  refine Ev.step (fun k => by rw [aQ.j1, if_neg (by simp)]) ?_
  obtain ⟨u, _, u2, u3⟩ := kz a b F B H (by omega)
  rw [u3.2 r1] at u2
  have hlen : ((gJ (A * C)).length : Int) = wrap64 (wrap64 (2 * a) * b) := by
   rw [ha, hb', w64 (x := 2 * (A : Int)) (by omega) (by omega), Int.mul_assoc, show (A : Int) * (C : Int) = ((A * C : Nat) : Int) from (Int.natCast_mul _ _).symm, kN]
   generalize A * C = n at A64
   rw [w64 (by omega) (by omega)]
   omega
  have loop : ∀ (d i : Nat), i + d = (gJ (A * C)).length → Ev (fun k => aQ.l0 k a b (gJ (A * C)) (i : Int) a b F B H) true := by
   intro d
   induction d with
   | zero =>
    intro i hi
    have g0 : ¬ (i : Int) < ((gJ (A * C)).length : Int) := by omega
    exact Ev.step (f := fun k => (aW.f k a b F B H).bind fun t => some t) (fun k => by rw [aQ.l0, if_neg g0, if_pos hlen]) (Ev.bind u2 (Ev.now _))
   | succ d ih =>
    intro i hi
    have hil : i < (gJ (A * C)).length := by omega
    have g0 : (i : Int) < ((gJ (A * C)).length : Int) := by omega
    have g1 : 0 ≤ (i : Int) := by omega
    have hl2 := kN (A * C)
    have hw := jO i (by omega)
    have hg := iW hil
    rw [kH] at hg
    refine Ev.step (fun k => ?_) (ih (i + 1) (by omega))
    rw [aQ.l0, if_pos g0, if_pos g1, hg, hw, if_pos (by omega)]
  exact loop (gJ (A * C)).length 0 (by omega)
 ·exact eH he (Ev.now _)
end Go.Proofs.YtkpidjmhdagkfaaGreatDoor.Pure
