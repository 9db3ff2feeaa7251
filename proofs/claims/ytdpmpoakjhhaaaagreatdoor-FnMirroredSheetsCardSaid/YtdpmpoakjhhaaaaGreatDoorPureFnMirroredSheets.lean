/- The pure statement of FnMirroredSheets: for every input that the row lets in, the law's Lean function answers true; no further condition. -/
import Derived.Test.YtdpmpoakjhhaaaaGreatDoorQFnMirroredSheetsx7
set_option linter.unusedVariables false
set_option linter.unusedSimpArgs false
namespace Go.Proofs.YtdpmpoakjhhaaaaGreatDoor.Pure
open Go.RowKit Go.Proofs.YtdpmpoakjhhaaaaGreatDoor.QFnMirroredSheets Go.Proofs.YtdpmpoakjhhaaaaGreatDoorW.PrintWords Go.Proofs.YtdpmpoakjhhaaaaGreatDoorW.PrintLast

theorem w64 {x : Int} (h0 : -9223372036854775808 ≤ x) (h1 : x ≤ 9223372036854775807) : wrap64 x = x := by unfold wrap64; omega
theorem wf8 {x : Int} (h : (Lit.int .u8 x).wf = true) : 0 ≤ x ∧ x ≤ 255 := by
  have h' : (decide (IntKind.u8.min ≤ x) && decide (x ≤ IntKind.u8.max)) = true := h
  simp only [Bool.and_eq_true, decide_eq_true_eq] at h'
  exact h'
theorem rd_get {xs : List Int} {i : Nat} (h : i < xs.length) : rd xs (i : Int) = xs[i] := by
  simp [rd, List.getD_eq_getElem?_getD, h]
theorem rd_mem {xs : List Int} {i : Nat} (h : i < xs.length) : rd xs (i : Int) ∈ xs := by rw [rd_get h]; exact List.getElem_mem h
theorem Ev_ite_t {α : Type} {c : Prop} [Decidable c] {f g : Nat → Option α} {r : α} (h : c) (k : Ev f r) : Ev (fun n => if c then f n else g n) r :=
  Ev.congr (fun _ => if_pos h) k
theorem Ev_ite_f {α : Type} {c : Prop} [Decidable c] {f g : Nat → Option α} {r : α} (h : ¬ c) (k : Ev g r) : Ev (fun n => if c then f n else g n) r :=
  Ev.congr (fun _ => if_neg h) k
theorem w64n (i : Nat) (h : i < 9223372036854775807) : wrap64 ((i : Int) + 1) = ((i + 1 : Nat) : Int) := by
  rw [w64 (by omega) (by omega)]; rfl
def spec_l04Turn.togg (a : Bool) (x : S41) : S41 := if a = true then ⟨x.f0, x.f1, !x.f2, x.f3⟩ else ⟨x.f0, x.f1, x.f2, !x.f3⟩
abbrev SL := S41
def gridL (H W : Nat) (g : Nat → Nat → List SL) : List (List (List SL)) := (List.range H).map fun y => (List.range W).map (g y)
theorem gridL_len (H W : Nat) (g : Nat → Nat → List SL) : (gridL H W g).length = H := by simp [gridL]
theorem gridL_row {H W : Nat} {g : Nat → Nat → List SL} {y : Nat} (h : y < H) : rd_L5 (gridL H W g) (y : Int) = (List.range W).map (g y) := by
  unfold rd_L5 gridL
  rw [Int.toNat_natCast, List.getD_eq_getElem?_getD, List.getElem?_map, List.getElem?_range h]
  rfl
theorem gridL_getD {H W : Nat} {g : Nat → Nat → List SL} {y : Nat} (h : y < H) : (gridL H W g).getD y [] = (List.range W).map (g y) := gridL_row (W := W) (g := g) h
theorem row_cell {W : Nat} {f : Nat → List SL} {x : Nat} (h : x < W) : rd_L4 ((List.range W).map f) (x : Int) = f x := by
  unfold rd_L4
  rw [Int.toNat_natCast, List.getD_eq_getElem?_getD, List.getElem?_map, List.getElem?_range h]
  rfl
theorem row_getD {W : Nat} {f : Nat → List SL} {x : Nat} (h : x < W) : ((List.range W).map f).getD x [] = f x := row_cell h
theorem row_len (W : Nat) (f : Nat → List SL) : ((List.range W).map f).length = W := by simp
theorem row_snoc {α : Type} (x : Nat) (f : Nat → α) : (List.range x).map f ++ [f x] = (List.range (x + 1)).map f := by rw [List.range_succ, List.map_append]; rfl
def turnL (a : Bool) (l : List SL) : List SL := l.reverse.map (spec_l04Turn.togg a)
theorem turnL_len (a : Bool) (l : List SL) : (turnL a l).length = l.length := by simp [turnL]
def ovr (f : Bool) (h i : Nat) : Nat := if f = true then h - 1 - i else 2 * h - 1 - i
def und (f : Bool) (h i : Nat) : Nat := if f = true then h + i else i
def gAlong (f : Bool) (W : Nat) (g : Nat → Nat → List SL) : Nat → Nat → List SL := fun y x => turnL true (g y (ovr f W x)) ++ g y (und f W x)
def gAcross (f : Bool) (H : Nat) (g : Nat → Nat → List SL) : Nat → Nat → List SL := fun y x => turnL false (g (ovr f H y) x) ++ g (und f H y) x
theorem ltc {a b : Nat} (h : a < b) : (a : Int) < (b : Int) := Int.ofNat_lt.2 h
theorem nn (a : Nat) : 0 ≤ (a : Int) := Int.natCast_nonneg a
theorem nltc {a b : Nat} (h : ¬ a < b) : ¬ (a : Int) < (b : Int) := fun z => h (Int.ofNat_lt.1 z)
theorem gA_t (W : Nat) (g : Nat → Nat → List SL) (y x : Nat) : gAlong true W g y x = turnL true (g y (W - 1 - x)) ++ g y (W + x) := rfl
theorem gA_f (W : Nat) (g : Nat → Nat → List SL) (y x : Nat) : gAlong false W g y x = turnL true (g y (2 * W - 1 - x)) ++ g y x := rfl
theorem lenb {α : Type} {l : List α} (h : l.length ≤ 8) : l.length < 5864062014805 := by omega
-- one row, folded along
theorem implFlip_eq {l : List SL} (a : Bool) (h : l.length ≤ 64) : impl_flipped.f l a = some (turnL (!a) l) := by
  unfold impl_flipped.f
  rw [if_pos (by omega)]
  have e : impl_flipped.togg a = spec_l04Turn.togg (!a) := by funext x; cases a <;> rfl
  rw [e]; rfl
theorem bt_list (s : ByteArray) (i : Nat) (h : i < s.size) : bt s (i : Int) = ((s.data.toList[i]'(by simpa using h)).toNat : Int) := by
  unfold bt
  rw [dif_pos (by rw [Int.toNat_natCast]; exact h)]
  simp [ByteArray.getElem_eq_getElem_data]
def lrc (l : List UInt8) : Nat := List.count 76 l + List.count 82 l
theorem lrc_cons (c : UInt8) (t : List UInt8) : lrc (c :: t) = lrc t + (if c = 76 ∨ c = 82 then 1 else 0) := by
  unfold lrc
  rw [List.count_cons, List.count_cons]
  by_cases h1 : c = 76
  · subst h1; simp; omega
  · by_cases h2 : c = 82
    · subst h2; simp; omega
    · simp [h1, h2]
theorem lrc_le (l : List UInt8) : lrc l ≤ l.length := by
  induction l with
  | nil => decide
  | cons c t ih => rw [lrc_cons, List.length_cons]; split <;> omega
theorem byte_eq (c : UInt8) (n : Nat) (hn : n < 256) : ((c.toNat : Int) = (n : Int)) ↔ c = UInt8.ofNat n := by
  have e : (UInt8.ofNat n).toNat = n := (show (UInt8.ofNat n).toNat = n % 256 from rfl).trans (Nat.mod_eq_of_lt hn)
  constructor
  · intro h
    apply UInt8.toNat_inj.1
    rw [e]
    omega
  · rintro rfl
    rw [e]
def gfold : List UInt8 → Nat → Nat → (Nat → Nat → List SL) → List SL
  | [], _, _, g => g 0 0
  | c :: t, H, W, g => if c = 76 ∨ c = 82 then gfold t H (W / 2) (gAlong (c == 76) (W / 2) g) else gfold t (H / 2) W (gAcross (c == 84) (H / 2) g)
def g0 : Nat → Nat → List SL := fun y x => [⟨(x : Int), (y : Int), false, false⟩]
theorem p2le {i n : Nat} (h : i ≤ n) : 2 ^ i ≤ 2 ^ n := Nat.pow_le_pow_right (by omega) h
theorem concat_ev {b c : List SL} (hb : b.length ≤ 64) (hc : c.length ≤ 64) : Ev (fun k => impl_Leaf_70.f k [b, c]) (b ++ c) := by
  have r0 : rd_L4 [b, c] 0 = b := rfl
  have r1 : rd_L4 [b, c] 1 = c := rfl
  have l2 : (([b, c] : List (List SL)).length : Int) = 2 := rfl
  have g0 : (0 : Int) < (([b, c] : List (List SL)).length : Int) := by rw [l2]; omega
  have g1 : (1 : Int) < (([b, c] : List (List SL)).length : Int) := by rw [l2]; omega
  have w1 : wrap64 (0 + 1) = 1 := by rw [w64 (by omega) (by omega)]; rfl
  have w2 : wrap64 (1 + 1) = 2 := by rw [w64 (by omega) (by omega)]; rfl
  have s1 : wrap64 (0 + (b.length : Int)) = (b.length : Int) := by rw [w64 (by omega) (by omega)]; omega
  have s2 : wrap64 ((b.length : Int) + (c.length : Int)) = ((b.length + c.length : Nat) : Int) := by rw [w64 (by omega) (by omega)]; omega
  have hg : impl_Leaf_82.f ([] : List SL) ((b.length + c.length : Nat) : Int) = some [] := by
    unfold impl_Leaf_82.f
    rw [if_pos rfl, if_pos (nn _), if_pos (by omega)]
  have a1 : ([] : List SL).length + b.length < 5864062014805 := by rw [List.length_nil]; omega
  have a2 : b.length + c.length < 5864062014805 := by omega
  generalize ([b, c] : List (List SL)) = G at r0 r1 l2 g0 g1
  refine Ev.step (f := fun k => impl_Leaf_70.l0 k G (b.length : Int) G 2 1) (fun k => ?_) ?_
  · show impl_Leaf_70.l0 (k + 1) G 0 G (G.length : Int) 0 = _
    rw [l2, impl_Leaf_70.l0, r0, s1, w1, if_pos (by decide), if_pos (by decide), if_pos g0, if_neg (by omega)]
  refine Ev.step (f := fun k => impl_Leaf_70.l0 k G ((b.length + c.length : Nat) : Int) G 2 2) (fun k => ?_) ?_
  · rw [impl_Leaf_70.l0, r1, s2, w2, if_pos (by decide), if_pos (by decide), if_pos g1, if_neg (by omega)]
  refine Ev.step (f := fun k => impl_Leaf_70.l1 k [] G 2 0) (fun k => ?_) ?_
  · rw [impl_Leaf_70.l0, if_neg (by decide), hg, l2]; rfl
  refine Ev.step (f := fun k => impl_Leaf_70.l1 k b G 2 1) (fun k => ?_) ?_
  · rw [impl_Leaf_70.l1, r0, w1, if_pos (by decide), if_pos (by decide), if_pos g0, if_pos a1, List.nil_append]
  refine Ev.step (f := fun k => impl_Leaf_70.l1 k (b ++ c) G 2 2) (fun k => ?_) ?_
  · rw [impl_Leaf_70.l1, r1, w2, if_pos (by decide), if_pos (by decide), if_pos g1, if_pos a2]
  exact Ev.step (f := fun _ => some (b ++ c)) (fun k => by rw [impl_Leaf_70.l1, if_neg (by decide)]) (Ev.now _)
theorem hvrow_ev {c : Nat → Nat → Option (List SL)} {f : Nat → List SL} : ∀ (n x : Nat), (∀ i, x ≤ i → i < x + n → Ev (fun k => c k i) (f i)) → Ev (fun k => hv_row (c k) n x ((List.range x).map f)) ((List.range (x + n)).map f)
  | 0, x, _ => Ev.now _
  | n + 1, x, h => by
    refine Ev.bind (h x (by omega) (by omega)) ?_
    have := hvrow_ev (c := c) (f := f) n (x + 1) (fun i h1 h2 => h i (by omega) (by omega))
    rw [row_snoc, show x + (n + 1) = x + 1 + n by omega]
    exact this
theorem hvrows_ev {c : Nat → Nat → Option (List (List SL))} {f : Nat → List (List SL)} : ∀ (n x : Nat), (∀ i, x ≤ i → i < x + n → Ev (fun k => c k i) (f i)) → Ev (fun k => hv_rows (c k) n x ((List.range x).map f)) ((List.range (x + n)).map f)
  | 0, x, _ => Ev.now _
  | n + 1, x, h => by
    refine Ev.bind (h x (by omega) (by omega)) ?_
    have := hvrows_ev (c := c) (f := f) n (x + 1) (fun i h1 h2 => h i (by omega) (by omega))
    rw [row_snoc, show x + (n + 1) = x + 1 + n by omega]
    exact this
theorem hvat_eq {H W : Nat} {g : Nat → Nat → List SL} (a : Bool) (h w x y : Nat) (s o : Bool) {Y X : Nat} (hY : (if a = true then hv_pos h y s o else y) = Y) (hX : (if a = true then x else hv_pos w x s o) = X) (h1 : Y < H) (h2 : X < W) : hv_at (gridL H W g) a h w x y s o = some (g Y X) := by
  unfold hv_at
  rw [hY, hX, if_pos (by rw [gridL_len]; exact h1), gridL_getD h1, if_pos (by rw [row_len]; exact h2), row_getD h2]
theorem halved_along {H W : Nat} {g : Nat → Nat → List SL} (f : Bool) (hH : 0 < H ∧ H ≤ 8) (hW : W ≤ 4) (hg : ∀ y x, y < H → x < 2 * W → (g y x).length ≤ 64) : Ev (fun k => impl_halved.f k (gridL H (2 * W) g) false f) (gridL H W (gAlong f W g)) := by
  have hl : ((gridL H (2 * W) g).getD 0 []).length = 2 * W := by rw [gridL_getD hH.1, row_len]
  have hc : 0 < (gridL H (2 * W) g).length ∧ (gridL H (2 * W) g).length ≤ 1000 ∧ ((gridL H (2 * W) g).getD 0 []).length ≤ 1000 := by rw [gridL_len, hl]; omega
  unfold impl_halved.f
  refine Ev_ite_t hc ?_
  rw [hl, gridL_len, show hvH false H = H from rfl, show hvW false (2 * W) = W from by unfold hvW; simp]
  have key := hvrows_ev (c := fun k y => hv_row (fun x => hv_cell k (gridL H (2 * W) g) false f H W y x) W 0 []) (f := fun y => (List.range W).map (gAlong f W g y)) H 0 (fun y _ hy => by
    have hr := hvrow_ev (c := fun k x => hv_cell k (gridL H (2 * W) g) false f H W y x) (f := gAlong f W g y) W 0 (fun x _ hx => by
      have b1 := hg y (ovr f W x) (by omega) (by unfold ovr; split <;> omega)
      have b2 := hg y (und f W x) (by omega) (by unfold und; split <;> omega)
      unfold hv_cell
      rw [hvat_eq (H := H) (W := 2 * W) (g := g) false H W x y (!f) true (Y := y) (X := ovr f W x) rfl (by cases f <;> simp [hv_pos, ovr] <;> omega) (by omega) (by unfold ovr; split <;> omega),
        hvat_eq (H := H) (W := 2 * W) (g := g) false H W x y f false (Y := y) (X := und f W x) rfl (by cases f <;> simp [hv_pos, und] <;> omega) (by omega) (by unfold und; split <;> omega)]
      simp only [Option.bind_some]
      rw [implFlip_eq false b1]
      simp only [Option.bind_some]
      exact concat_ev (by rw [turnL_len]; exact b1) b2)
    rw [Nat.zero_add] at hr
    exact hr)
  rw [Nat.zero_add] at key
  exact key
theorem halved_across {H W : Nat} {g : Nat → Nat → List SL} (f : Bool) (hH : 0 < H ∧ H ≤ 4) (hW : W ≤ 8) (hg : ∀ y x, y < 2 * H → x < W → (g y x).length ≤ 64) : Ev (fun k => impl_halved.f k (gridL (2 * H) W g) true f) (gridL H W (gAcross f H g)) := by
  have hl : ((gridL (2 * H) W g).getD 0 []).length = W := by rw [gridL_getD (by omega), row_len]
  have hc : 0 < (gridL (2 * H) W g).length ∧ (gridL (2 * H) W g).length ≤ 1000 ∧ ((gridL (2 * H) W g).getD 0 []).length ≤ 1000 := by rw [gridL_len, hl]; omega
  unfold impl_halved.f
  refine Ev_ite_t hc ?_
  rw [hl, gridL_len, show hvW true W = W from rfl, show hvH true (2 * H) = H from by unfold hvH; simp]
  have key := hvrows_ev (c := fun k y => hv_row (fun x => hv_cell k (gridL (2 * H) W g) true f H W y x) W 0 []) (f := fun y => (List.range W).map (gAcross f H g y)) H 0 (fun y _ hy => by
    have hr := hvrow_ev (c := fun k x => hv_cell k (gridL (2 * H) W g) true f H W y x) (f := gAcross f H g y) W 0 (fun x _ hx => by
      have b1 := hg (ovr f H y) x (by unfold ovr; split <;> omega) (by omega)
      have b2 := hg (und f H y) x (by unfold und; split <;> omega) (by omega)
      unfold hv_cell
      rw [hvat_eq (H := 2 * H) (W := W) (g := g) true H W x y (!f) true (Y := ovr f H y) (X := x) (by cases f <;> simp [hv_pos, ovr] <;> omega) rfl (by unfold ovr; split <;> omega) (by omega),
        hvat_eq (H := 2 * H) (W := W) (g := g) true H W x y f false (Y := und f H y) (X := x) (by cases f <;> simp [hv_pos, und] <;> omega) rfl (by unfold und; split <;> omega) (by omega)]
      simp only [Option.bind_some]
      rw [implFlip_eq true b1]
      simp only [Option.bind_some]
      exact concat_ev (by rw [turnL_len]; exact b1) b2)
    rw [Nat.zero_add] at hr
    exact hr)
  rw [Nat.zero_add] at key
  exact key
-- the sheet before any fold
theorem implStart_ev {H W : Nat} (s : ByteArray) (hH : H ≤ 8) (hW : W ≤ 8) (r : List SL) (hr : Ev (fun k => impl_foldSheet.l2 k s (gridL H W g0) (s.size : Int) 0) r) : Ev (fun k => impl_foldSheet.f k (W : Int) (H : Int) s) r := by
  have hin : ∀ (y : Nat) (a5 : List (List (List SL))) (r : List SL), a5.length ≤ 8 → Ev (fun k => impl_foldSheet.l0 k (W : Int) s (a5 ++ [(List.range W).map (g0 y)]) (H : Int) (wrap64 ((y : Int) + 1))) r → ∀ d x : Nat, x + d = W → Ev (fun k => impl_foldSheet.l1 k (W : Int) s a5 (y : Int) ((List.range x).map (g0 y)) (H : Int) (y : Int) (W : Int) (x : Int)) r := by
    intro y a5 r h5 hr d
    induction d with
    | zero =>
      intro x hx
      obtain rfl : x = W := by omega
      have hn : ¬ (x : Int) < (x : Int) := Int.lt_irrefl _
      exact Ev.step (fun k => by rw [impl_foldSheet.l1, if_neg hn, if_pos (lenb h5)]) hr
    | succ d ih =>
      intro x hx
      have ih' := ih (x + 1) (by omega)
      have h8 : ((List.range x).map (g0 y)).length ≤ 8 := by rw [row_len]; omega
      have f1 : (x : Int) < (W : Int) := ltc (by omega)
      rw [← row_snoc, ← w64n x (by omega)] at ih'
      exact Ev.step (fun k => by rw [impl_foldSheet.l1, if_pos f1, if_pos (lenb h8)]; rfl) ih'
  have key : ∀ d y : Nat, y + d = H → Ev (fun k => impl_foldSheet.l0 k (W : Int) s ((List.range y).map fun y => (List.range W).map (g0 y)) (H : Int) (y : Int)) r := by
    intro d
    induction d with
    | zero =>
      intro y hy
      obtain rfl : y = H := by omega
      have hn : ¬ (y : Int) < (y : Int) := Int.lt_irrefl _
      exact Ev.step (fun k => by rw [impl_foldSheet.l0, if_neg hn]; rfl) hr
    | succ d ih =>
      intro y hy
      have ih' := ih (y + 1) (by omega)
      rw [← row_snoc, ← w64n y (by omega)] at ih'
      have f1 : (y : Int) < (H : Int) := ltc (by omega)
      have h := hin y _ _ (by rw [List.length_map, List.length_range]; omega) ih' W 0 (by omega)
      exact Ev.step (fun k => by rw [impl_foldSheet.l0, if_pos f1]; rfl) h
  exact key H 0 (by omega)
theorem ifold_step {s : ByteArray} {pos : Nat} {G G' : List (List (List SL))} {r : List SL} (a f : Bool) (hp : pos < s.size) (hp2 : pos < 1000) (hb : (bt s (pos : Int) = 84 ∧ a = true ∧ f = true) ∨ (bt s (pos : Int) = 76 ∧ a = false ∧ f = true) ∨ (bt s (pos : Int) = 82 ∧ a = false ∧ f = false) ∨ (bt s (pos : Int) = 66 ∧ a = true ∧ f = false)) (h1 : Ev (fun k => impl_halved.f k G a f) G') (h2 : Ev (fun k => impl_foldSheet.l2 k s G' (s.size : Int) ((pos + 1 : Nat) : Int)) r) : Ev (fun k => impl_foldSheet.l2 k s G (s.size : Int) (pos : Int)) r := by
  have f1 : (pos : Int) < (s.size : Int) := ltc hp
  have e1 := w64n pos (by omega)
  refine Ev.step (f := fun k => (impl_halved.f k G a f).bind fun t => impl_foldSheet.l2 k s t (s.size : Int) ((pos + 1 : Nat) : Int)) (fun k => ?_) (Ev.bind h1 h2)
  rw [impl_foldSheet.l2, if_pos f1, if_pos (nn _), if_pos f1, e1]
  rcases hb with ⟨hb, rfl, rfl⟩ | ⟨hb, rfl, rfl⟩ | ⟨hb, rfl, rfl⟩ | ⟨hb, rfl, rfl⟩
  · rw [hb, if_pos rfl, if_neg (by decide)]; rfl
  · rw [hb, if_neg (by decide), if_pos rfl]; rfl
  · rw [hb, if_neg (by decide), if_neg (by decide)]; rfl
  · rw [hb, if_neg (by decide), if_neg (by decide)]; rfl
def okSch (a b : Int) (s : ByteArray) : Prop := ∃ i j : Nat, i ≤ 3 ∧ j ≤ 3 ∧ a = ((2 ^ i : Nat) : Int) ∧ b = ((2 ^ j : Nat) : Int) ∧ (∀ x ∈ s.data.toList, ([76, 82, 84, 66] : List UInt8).contains x = true) ∧ lrc s.data.toList = i ∧ s.data.toList.length = i + j
theorem side_cases (a : Int) : (∃ j : Nat, j ≤ 3 ∧ a = ((2 ^ j : Nat) : Int) ∧ spec_l04Power.f a = some ((j : Int), true) ∧ impl_isSide.f a = some true ∧ Ev (fun k => impl_halvings.f k a) (j : Int)) ∨ (spec_l04Power.f a = some (0, false) ∧ impl_isSide.f a = some false) := by
  by_cases h1 : a = 1
  · subst h1; exact .inl ⟨0, by decide, by decide, by decide +kernel, by decide +kernel, Ev.of (impl_halvings.mono _) (k := 10) (by decide +kernel)⟩
  by_cases h2 : a = 2
  · subst h2; exact .inl ⟨1, by decide, by decide, by decide +kernel, by decide +kernel, Ev.of (impl_halvings.mono _) (k := 10) (by decide +kernel)⟩
  by_cases h4 : a = 4
  · subst h4; exact .inl ⟨2, by decide, by decide, by decide +kernel, by decide +kernel, Ev.of (impl_halvings.mono _) (k := 10) (by decide +kernel)⟩
  by_cases h8 : a = 8
  · subst h8; exact .inl ⟨3, by decide, by decide, by decide +kernel, by decide +kernel, Ev.of (impl_halvings.mono _) (k := 10) (by decide +kernel)⟩
  · refine .inr ⟨?_, ?_⟩
    · unfold spec_l04Power.f
      rw [if_neg h1, if_neg h2, if_neg h4, if_neg h8]
    · unfold impl_isSide.f
      rw [if_neg h1, if_neg h2, if_neg h4, show (a == 8) = false from beq_false_of_ne h8]
theorem trim_nil (cs : List UInt8) : ∀ l : List UInt8, Go.Lib.trimS l cs = [] ↔ ∀ b ∈ l, cs.contains b = true := by
  have dw : ∀ l : List UInt8, l.dropWhile (cs.contains ·) = [] ↔ ∀ b ∈ l, cs.contains b = true := by
    intro l
    induction l with
    | nil => simp
    | cons a t ih =>
      rw [List.dropWhile_cons]
      by_cases h : cs.contains a = true
      · rw [if_pos h, ih]
        exact ⟨fun g b hb => by rcases List.mem_cons.1 hb with rfl | hb; exact h; exact g b hb, fun g b hb => g b (List.mem_cons_of_mem _ hb)⟩
      · rw [if_neg h]
        exact ⟨fun g => (List.cons_ne_nil _ _ g).elim, fun g => absurd (g a List.mem_cons_self) h⟩
  intro l
  unfold Go.Lib.trimS Go.Lib.trimLeftS
  rw [dw]
  unfold Go.Lib.trimRightS
  constructor
  · intro g
    have e : l.reverse.dropWhile (cs.contains ·) = [] := by
      cases hd : l.reverse.dropWhile (cs.contains ·) with
      | nil => rfl
      | cons a t =>
        have h1 := List.head?_dropWhile_not (cs.contains ·) l.reverse
        rw [hd] at h1 g
        have h2 := g a (by simp)
        simp only [List.head?_cons] at h1
        rw [h2] at h1
        cases h1
    intro b hb
    exact (dw l.reverse).1 e b (List.mem_reverse.2 hb)
  · intro g
    have e := (dw l.reverse).2 (fun b hb => g b (List.mem_reverse.1 hb))
    rw [e]
    intro b hb
    simp at hb
def sL (one two : Bool) : List UInt8 → Int → Int → Bool
  | [], a, b => if one = true then (if two = true then (if a = 0 then b == 0 else false) else false) else false
  | c :: t, a, b => if c = 76 ∨ c = 82 then sL one two t (a - 1) b else if c = 84 ∨ c = 66 then sL one two t a (b - 1) else false
theorem sL_iff (one two : Bool) : ∀ (l : List UInt8) (a b : Int), sL one two l a b = true ↔ (∀ x ∈ l, ([76, 82, 84, 66] : List UInt8).contains x = true) ∧ one = true ∧ two = true ∧ a = (lrc l : Int) ∧ b = (l.length : Int) - (lrc l : Int)
  | [], a, b => by
    rw [sL, show lrc [] = 0 from rfl]
    cases one <;> cases two <;> simp <;> omega
  | c :: t, a, b => by
    rw [sL, lrc_cons, List.length_cons]
    by_cases h1 : c = 76 ∨ c = 82
    · rw [if_pos h1, if_pos h1, sL_iff one two t]
      have hc : ([76, 82, 84, 66] : List UInt8).contains c = true := by rcases h1 with rfl | rfl <;> decide
      constructor
      · rintro ⟨g1, g2, g3, g4, g5⟩
        exact ⟨fun x hx => by rcases List.mem_cons.1 hx with rfl | hx; exact hc; exact g1 x hx, g2, g3, by omega, by omega⟩
      · rintro ⟨g1, g2, g3, g4, g5⟩
        exact ⟨fun x hx => g1 x (List.mem_cons_of_mem _ hx), g2, g3, by omega, by omega⟩
    · rw [if_neg h1, if_neg h1]
      by_cases h2 : c = 84 ∨ c = 66
      · rw [if_pos h2, sL_iff one two t]
        have hc : ([76, 82, 84, 66] : List UInt8).contains c = true := by rcases h2 with rfl | rfl <;> decide
        constructor
        · rintro ⟨g1, g2, g3, g4, g5⟩
          exact ⟨fun x hx => by rcases List.mem_cons.1 hx with rfl | hx; exact hc; exact g1 x hx, g2, g3, by omega, by omega⟩
        · rintro ⟨g1, g2, g3, g4, g5⟩
          exact ⟨fun x hx => g1 x (List.mem_cons_of_mem _ hx), g2, g3, by omega, by omega⟩
      · rw [if_neg h2]
        constructor
        · intro z; cases z
        · rintro ⟨g1, _⟩
          have := g1 c List.mem_cons_self
          simp only [List.contains_cons, List.contains_nil, Bool.or_false, Bool.or_eq_true, beq_iff_eq] at this
          rcases this with e | e | e | e
          · exact (h1 (.inl e)).elim
          · exact (h1 (.inr e)).elim
          · exact (h2 (.inl e)).elim
          · exact (h2 (.inr e)).elim
theorem specIsScheme_loop (s : ByteArray) (one two : Bool) (hs : s.size ≤ 1048576) : ∀ (d i : Nat), i + d = s.size → ∀ a b : Int, -4000000 ≤ a - (d : Int) → a ≤ 4000000 → -4000000 ≤ b - (d : Int) → b ≤ 4000000 → Ev (fun k => spec_IsScheme.l0 k s a one b two (i : Int)) (sL one two (s.data.toList.drop i) a b) := by
  have hz : s.size = s.data.toList.length := by simp
  intro d
  induction d with
  | zero =>
    intro i hi a b _ _ _ _
    rw [List.drop_of_length_le (by omega), sL]
    refine Ev.step (f := fun _ => some (if one = true then (if two = true then (if a = 0 then b == 0 else false) else false) else false)) (fun k => ?_) (Ev.now _)
    rw [spec_IsScheme.l0, if_neg (by omega)]
    cases one <;> cases two <;> by_cases h : a = 0 <;> simp [h]
  | succ d ih =>
    intro i hi a b h1 h2 h3 h4
    have hil : i < s.data.toList.length := by omega
    rw [List.drop_eq_getElem_cons hil, sL]
    have hb := bt_list s i (by omega)
    generalize s.data.toList[i] = c at hb
    have b76 := byte_eq c 76 (by omega)
    have b82 := byte_eq c 82 (by omega)
    have b84 := byte_eq c 84 (by omega)
    have b66 := byte_eq c 66 (by omega)
    have e76 : bt s (i : Int) = 76 ↔ c = 76 := by rw [hb]; exact b76
    have e82 : bt s (i : Int) = 82 ↔ c = 82 := by rw [hb]; exact b82
    have e84 : bt s (i : Int) = 84 ↔ c = 84 := by rw [hb]; exact b84
    have e66 : bt s (i : Int) = 66 ↔ c = 66 := by rw [hb]; exact b66
    have step : ∀ r, Ev (fun k => spec_IsScheme.j1 k s a one b two (i : Int) (bt s (i : Int)) (decide (c = 76 ∨ c = 82))) r → Ev (fun k => spec_IsScheme.l0 k s a one b two (i : Int)) r := by
      intro r hr
      refine Ev.step (fun k => ?_) hr
      rw [spec_IsScheme.l0, if_pos (by omega), if_pos (by omega)]
      by_cases c1 : bt s (i : Int) = 76
      · rw [if_pos c1, show ((bt s (i : Int)) == 76) = true from by rw [c1]; rfl, decide_eq_true (.inl (e76.1 c1))]
      · rw [if_neg c1]
        by_cases c2 : bt s (i : Int) = 82
        · rw [show ((bt s (i : Int)) == 82) = true from by rw [c2]; rfl, decide_eq_true (.inr (e82.1 c2))]
        · rw [show ((bt s (i : Int)) == 82) = false from beq_false_of_ne c2, decide_eq_false (fun z => by rcases z with z | z; exact c1 (e76.2 z); exact c2 (e82.2 z))]
    apply step
    by_cases g1 : c = 76 ∨ c = 82
    · rw [if_pos g1, decide_eq_true g1]
      refine Ev.step (fun k => by rw [spec_IsScheme.j1, if_pos rfl, w64n i (by omega), w64 (x := a - 1) (by omega) (by omega)]) ?_
      exact ih (i + 1) (by omega) _ _ (by omega) (by omega) (by omega) (by omega)
    · rw [if_neg g1, decide_eq_false g1]
      by_cases g2 : c = 84 ∨ c = 66
      · rw [if_pos g2]
        refine Ev.step (f := fun k => spec_IsScheme.l0 k s a one (b - 1) two ((i + 1 : Nat) : Int)) (fun k => ?_) (ih (i + 1) (by omega) _ _ (by omega) (by omega) (by omega) (by omega))
        rw [spec_IsScheme.j1, if_neg (by simp), w64n i (by omega), w64 (x := b - 1) (by omega) (by omega)]
        by_cases c3 : bt s (i : Int) = 84
        · rw [if_pos c3]
        · rw [if_neg c3, if_pos (e66.2 (by rcases g2 with z | z; exact (c3 (e84.2 z)).elim; exact z))]
      · rw [if_neg g2]
        refine Ev.step (f := fun _ => some false) (fun k => ?_) (Ev.now _)
        rw [spec_IsScheme.j1, if_neg (by simp), if_neg (fun z => g2 (.inl (e84.1 z))), if_neg (fun z => g2 (.inr (e66.1 z)))]
theorem isScheme_two (a b : Int) (s : ByteArray) (hs : s.size ≤ 1048576) : ∃ v : Bool, Ev (fun k => spec_IsScheme.f k a b s) v ∧ Ev (fun k => impl_IsScheme.f k a b s) v ∧ (v = true → ∃ i j : Nat, i ≤ 3 ∧ j ≤ 3 ∧ a = ((2 ^ i : Nat) : Int) ∧ b = ((2 ^ j : Nat) : Int) ∧ (∀ x ∈ s.data.toList, ([76, 82, 84, 66] : List UInt8).contains x = true) ∧ lrc s.data.toList = i ∧ s.data.toList.length = i + j) := by
  have hz : s.size = s.data.toList.length := by simp
  have hle := lrc_le s.data.toList
  have spec : ∀ (i j : Nat) (one two : Bool), i ≤ 3 → j ≤ 3 → spec_l04Power.f a = some ((i : Int), one) → spec_l04Power.f b = some ((j : Int), two) → Ev (fun k => spec_IsScheme.f k a b s) (sL one two s.data.toList (i : Int) (j : Int)) := by
    intro i j one two hi hj p1 p2
    unfold spec_IsScheme.f
    rw [p1, p2]
    refine Ev.bind (Ev.now _) (Ev.bind (Ev.now _) ?_)
    have := specIsScheme_loop s one two hs s.size 0 (by omega) (i : Int) (j : Int) (by omega) (by omega) (by omega) (by omega)
    rw [List.drop_zero] at this
    exact Ev.congr (fun k => rfl) this
  have no : ∀ (i j : Nat) (one two : Bool), (one = false ∨ two = false) → sL one two s.data.toList (i : Int) (j : Int) = false := by
    intro i j one two h
    rw [Bool.eq_false_iff]
    intro z
    obtain ⟨_, z1, z2, _⟩ := (sL_iff _ _ _ _ _).1 z
    rcases h with h | h
    · rw [h] at z1; cases z1
    · rw [h] at z2; cases z2
  have bad : impl_isSheet.f a b = some false → Ev (fun k => impl_IsScheme.f k a b s) false := by
    intro h
    unfold impl_IsScheme.f
    rw [h]
    exact Ev.bind (Ev.now _) (Ev_ite_f (by simp) (Ev.now _))
  rcases side_cases a with ⟨i, i1, i2, i3, i4, i5⟩ | ⟨i3, i4⟩
  · rcases side_cases b with ⟨j, j1, j2, j3, j4, j5⟩ | ⟨j3, j4⟩
    · have hsh : impl_isSheet.f a b = some true := by unfold impl_isSheet.f; rw [i4, j4]; rfl
      refine ⟨_, spec i j true true i1 j1 i3 j3, ?_, ?_⟩
      · unfold impl_IsScheme.f
        rw [hsh]
        refine Ev.bind (Ev.now _) (Ev_ite_t rfl (Ev_ite_t hs ?_))
        have hiff := sL_iff true true s.data.toList (i : Int) (j : Int)
        have hlr : lrcount s = lrc s.data.toList := rfl
        by_cases ht : Go.Lib.trimS s.data.toList [76, 82, 84, 66] = []
        · refine Ev_ite_t ht (Ev.bind i5 ?_)
          have hall := (trim_nil _ _).1 ht
          by_cases hc : (lrcount s : Int) = (i : Int)
          · refine Ev_ite_t hc (Ev.bind j5 ?_)
            have e : sL true true s.data.toList (i : Int) (j : Int) = decide ((s.size : Int) - (lrcount s : Int) = (j : Int)) := by
              rw [Bool.eq_iff_iff, hiff, decide_eq_true_iff]
              constructor
              · rintro ⟨_, _, _, g1, g2⟩
                rw [hz, hlr, g2]
              · intro g
                exact ⟨hall, rfl, rfl, by rw [← hlr, hc], by rw [← hlr, ← hz, g]⟩
            rw [e]
            exact Ev.now _
          · rw [show sL true true s.data.toList (i : Int) (j : Int) = false from by
              rw [Bool.eq_false_iff]; intro z
              obtain ⟨_, _, _, z4, _⟩ := hiff.1 z
              exact hc (by rw [hlr, z4])]
            exact Ev_ite_f hc (Ev.now _)
        · rw [show sL true true s.data.toList (i : Int) (j : Int) = false from by
            rw [Bool.eq_false_iff]; intro z
            exact ht ((trim_nil _ _).2 (hiff.1 z).1)]
          exact Ev_ite_f ht (Ev.now _)
      · intro z
        obtain ⟨z1, _, _, z4, z5⟩ := (sL_iff _ _ _ _ _).1 z
        exact ⟨i, j, i1, j1, i2, j2, z1, by omega, by omega⟩
    · have hsh : impl_isSheet.f a b = some false := by unfold impl_isSheet.f; rw [i4, j4]; rfl
      have e := spec i 0 true false i1 (by omega) i3 j3
      rw [no i 0 true false (.inr rfl)] at e
      exact ⟨false, e, bad hsh, fun z => by cases z⟩
  · have hsh : impl_isSheet.f a b = some false := by unfold impl_isSheet.f; rw [i4]; rfl
    rcases side_cases b with ⟨j, j1, j2, j3, j4, j5⟩ | ⟨j3, j4⟩
    · have e := spec 0 j false true (by omega) j1 i3 j3
      rw [no 0 j false true (.inl rfl)] at e
      exact ⟨false, e, bad hsh, fun z => by cases z⟩
    · have e := spec 0 0 false false (by omega) (by omega) i3 j3
      rw [no 0 0 false false (.inl rfl)] at e
      exact ⟨false, e, bad hsh, fun z => by cases z⟩
theorem sheet_cases (a b : Int) : (∃ i j : Nat, i ≤ 3 ∧ j ≤ 3 ∧ a = ((2 ^ i : Nat) : Int) ∧ b = ((2 ^ j : Nat) : Int) ∧ spec_l04Power.f a = some ((i : Int), true) ∧ spec_l04Power.f b = some ((j : Int), true) ∧ spec_l04Sheet.f a b = some true ∧ impl_isSheet.f a b = some true ∧ Ev (fun k => impl_halvings.f k a) (i : Int) ∧ Ev (fun k => impl_halvings.f k b) (j : Int)) ∨ (spec_l04Sheet.f a b = some false ∧ impl_isSheet.f a b = some false) := by
  unfold spec_l04Sheet.f impl_isSheet.f
  rcases side_cases a with ⟨i, i1, i2, i3, i4, i5⟩ | ⟨i3, i4⟩
  · rcases side_cases b with ⟨j, j1, j2, j3, j4, j5⟩ | ⟨j3, j4⟩
    · exact .inl ⟨i, j, i1, j1, i2, j2, i3, j3, by rw [i3, j3]; rfl, by rw [i4, j4]; rfl, i5, j5⟩
    · exact .inr ⟨by rw [i3, j3]; rfl, by rw [i4, j4]; rfl⟩
  · refine .inr ⟨?_, by rw [i4]; rfl⟩
    rw [i3]
    rcases side_cases b with ⟨j, j1, j2, j3, j4, j5⟩ | ⟨j3, j4⟩
    · rw [j3]; rfl
    · rw [j3]; rfl
theorem codes_two (a b : Int) (s : ByteArray) (hs : s.size ≤ 1048576) : ∃ c : Int, Ev (fun k => spec_l04Code.f k a b s) c ∧ Ev (fun k => impl_checkScheme.f k a b s) c ∧ 0 ≤ c ∧ c ≤ 2 ∧ (c = 0 → okSch a b s) := by
  obtain ⟨v, v1, v2, v3⟩ := isScheme_two a b s hs
  unfold spec_l04Code.f impl_checkScheme.f
  rcases sheet_cases a b with ⟨i, j, _, _, _, _, _, _, s1, s2, _, _⟩ | ⟨s1, s2⟩
  · rw [s1, s2]
    cases hv : v with
    | true =>
      rw [hv] at v1 v2
      exact ⟨0, Ev.bind (Ev.now _) (Ev_ite_t rfl (Ev.bind v1 (Ev_ite_t rfl (Ev.now _)))), Ev.bind (Ev.now _) (Ev_ite_t rfl (Ev.bind v2 (Ev_ite_t rfl (Ev.now _)))), by omega, by omega, fun _ => v3 hv⟩
    | false =>
      rw [hv] at v1 v2
      exact ⟨2, Ev.bind (Ev.now _) (Ev_ite_t rfl (Ev.bind v1 (Ev_ite_f (by simp) (Ev.now _)))), Ev.bind (Ev.now _) (Ev_ite_t rfl (Ev.bind v2 (Ev_ite_f (by simp) (Ev.now _)))), by omega, by omega, fun z => by omega⟩
  · rw [s1, s2]
    exact ⟨1, Ev.bind (Ev.now _) (Ev_ite_f (by simp) (Ev.now _)), Ev.bind (Ev.now _) (Ev_ite_f (by simp) (Ev.now _)), by omega, by omega, fun z => by omega⟩
def mirT (s : ByteArray) : ByteArray := ⟨(s.data.toList.map miSw).toArray⟩
theorem smSw_eq : smSw = miSw := rfl
theorem mirrorS_two {a b c : Int} {s : ByteArray} (hs : s.size ≤ 1048576) (h1 : Ev (fun k => spec_l04Code.f k a b s) c) (h2 : Ev (fun k => impl_checkScheme.f k a b s) c) : ∃ v : ByteArray × Int, Ev (fun k => spec_MirrorScheme.f k a b s) v ∧ Ev (fun k => impl_MirrorScheme.f k a b s) v ∧ v.2 = c ∧ (c = 0 → v.1 = mirT s) := by
  unfold spec_MirrorScheme.f impl_MirrorScheme.f
  by_cases hc : c = 0
  · refine ⟨(mirT s, 0), Ev.bind h1 (Ev_ite_t hc (Ev_ite_t hs ?_)), Ev.bind h2 (Ev_ite_t hc ?_), hc.symm, fun _ => rfl⟩
    · rw [smSw_eq]; exact Ev.now _
    · unfold impl_mirrored.f
      rw [if_pos hs]
      exact Ev.bind (Ev.now _) (Ev.now _)
  · exact ⟨(⟨#[]⟩, c), Ev.bind h1 (Ev_ite_f hc (Ev.now _)), Ev.bind h2 (Ev_ite_f hc (Ev.now _)), rfl, fun h => absurd h hc⟩
theorem leaves_loopI (s : ByteArray) (hs : s.size ≤ 6) : ∀ (d pos i j C : Nat) (g : Nat → Nat → List SL), pos + d = s.size → (∀ x ∈ s.data.toList.drop pos, ([76, 82, 84, 66] : List UInt8).contains x = true) → lrc (s.data.toList.drop pos) = i → d = i + j → i ≤ 3 → j ≤ 3 → (∀ y x, y < 2 ^ j → x < 2 ^ i → (g y x).length = C) → C * 2 ^ d ≤ 64 →
    Ev (fun k => impl_foldSheet.l2 k s (gridL (2 ^ j) (2 ^ i) g) (s.size : Int) (pos : Int)) (gfold (s.data.toList.drop pos) (2 ^ j) (2 ^ i) g) ∧ (gfold (s.data.toList.drop pos) (2 ^ j) (2 ^ i) g).length = C * 2 ^ d := by
  have hz : s.size = s.data.toList.length := by simp
  intro d
  induction d with
  | zero =>
    intro pos i j C g hp hall hl hd hi hj hC h64
    obtain rfl : i = 0 := by omega
    obtain rfl : j = 0 := by omega
    rw [List.drop_of_length_le (by omega), gfold]
    have n1 : ¬ (pos : Int) < (s.size : Int) := nltc (by omega)
    have a1 : (0 : Int) < ((gridL (2 ^ 0) (2 ^ 0) g).length : Int) := by rw [gridL_len]; decide
    have a2 : rd_L5 (gridL (2 ^ 0) (2 ^ 0) g) 0 = [g 0 0] := rfl
    have a3 : rd_L4 [g 0 0] 0 = g 0 0 := rfl
    have a4 : (0 : Int) < (([g 0 0] : List (List SL)).length : Int) := by show (0 : Int) < 1; decide
    refine ⟨Ev.step (f := fun _ => some (g 0 0)) (fun k => ?_) (Ev.now _), by rw [hC 0 0 (by decide) (by decide)]; omega⟩
    · rw [impl_foldSheet.l2, if_neg n1, if_pos a1, a2, if_pos a4, a3]
  | succ d ih =>
    intro pos i j C g hp hall hl hd hi hj hC h64
    have hil : pos < s.data.toList.length := by omega
    have hdr := List.drop_eq_getElem_cons hil
    have hb := bt_list s pos (by omega)
    rw [hdr] at hall hl ⊢
    have hc := hall _ List.mem_cons_self
    have hall' := fun x hx => hall x (List.mem_cons_of_mem _ hx)
    rw [lrc_cons] at hl
    generalize s.data.toList[pos] = c at hb hc hl ⊢
    have hCle : C ≤ 32 := by
      have h1 : 1 ≤ 2 ^ d := Nat.one_le_two_pow
      rw [Nat.pow_succ] at h64
      have h2 : C * 2 ≤ C * (2 ^ d * 2) := Nat.mul_le_mul_left _ (by omega)
      omega
    have h64' : (C + C) * 2 ^ d ≤ 64 := by rw [Nat.pow_succ] at h64; rw [Nat.add_mul, ← Nat.two_mul, ← Nat.mul_assoc, Nat.mul_comm 2 C, Nat.mul_assoc, Nat.mul_comm 2]; exact h64
    have hlen' : (C + C) * 2 ^ d = C * 2 ^ (d + 1) := by rw [Nat.pow_succ, Nat.add_mul, ← Nat.two_mul, ← Nat.mul_assoc, Nat.mul_comm 2 C, Nat.mul_assoc, Nat.mul_comm 2]
    by_cases h1 : c = 76 ∨ c = 82
    · rw [if_pos h1] at hl
      obtain ⟨i, rfl⟩ : ∃ q, i = q + 1 := ⟨i - 1, by omega⟩
      have hW : 2 ^ (i + 1) = 2 * 2 ^ i := by rw [Nat.pow_succ, Nat.mul_comm]
      have hW4 : 2 ^ i ≤ 4 := p2le (n := 2) (by omega)
      have hH8 : 2 ^ j ≤ 8 := p2le (n := 3) hj
      have hH0 : 0 < 2 ^ j := Nat.pow_pos (by omega)
      rw [gfold, if_pos h1, hW, Nat.mul_div_cancel_left _ (by omega : 0 < 2)]
      have hg : ∀ y x, y < 2 ^ j → x < 2 * 2 ^ i → (g y x).length ≤ 64 := fun y x hy hx => by rw [hC y x hy (by rw [hW]; exact hx)]; omega
      have hC' : ∀ y x, y < 2 ^ j → x < 2 ^ i → (gAlong (c == 76) (2 ^ i) g y x).length = C + C := fun y x hy hx => by
        unfold gAlong
        rw [List.length_append, turnL_len, hC y _ hy (by rw [hW]; unfold ovr; split <;> omega), hC y _ hy (by rw [hW]; unfold und; split <;> omega)]
      obtain ⟨j2, j3⟩ := ih (pos + 1) i j (C + C) (gAlong (c == 76) (2 ^ i) g) (by omega) hall' (by omega) (by omega) (by omega) hj hC' h64'
      have a2 := halved_along (c == 76) ⟨hH0, hH8⟩ hW4 hg
      rcases h1 with rfl | rfl
      · have hb' : bt s (pos : Int) = 76 := hb
        exact ⟨ifold_step false true (by omega) (by omega) (.inr (.inl ⟨hb', rfl, rfl⟩)) a2 j2, j3.trans hlen'⟩
      · have hb' : bt s (pos : Int) = 82 := hb
        exact ⟨ifold_step false false (by omega) (by omega) (.inr (.inr (.inl ⟨hb', rfl, rfl⟩))) a2 j2, j3.trans hlen'⟩
    · rw [if_neg h1] at hl
      have hdj : lrc (s.data.toList.drop (pos + 1)) ≤ d := by
        have := lrc_le (s.data.toList.drop (pos + 1))
        rw [List.length_drop] at this
        omega
      have h2 : c = 84 ∨ c = 66 := by
        simp only [List.contains_cons, List.contains_nil, Bool.or_false, Bool.or_eq_true, beq_iff_eq] at hc
        rcases hc with e | e | e | e
        · exact (h1 (.inl e)).elim
        · exact (h1 (.inr e)).elim
        · exact .inl e
        · exact .inr e
      obtain ⟨j, rfl⟩ : ∃ q, j = q + 1 := ⟨j - 1, by omega⟩
      have hH : 2 ^ (j + 1) = 2 * 2 ^ j := by rw [Nat.pow_succ, Nat.mul_comm]
      have hH4 : 2 ^ j ≤ 4 := p2le (n := 2) (by omega)
      have hW8 : 2 ^ i ≤ 8 := p2le (n := 3) hi
      have hH0 : 0 < 2 ^ j := Nat.pow_pos (by omega)
      rw [gfold, if_neg h1, hH, Nat.mul_div_cancel_left _ (by omega : 0 < 2)]
      have hg : ∀ y x, y < 2 * 2 ^ j → x < 2 ^ i → (g y x).length ≤ 64 := fun y x hy hx => by rw [hC y x (by rw [hH]; exact hy) hx]; omega
      have hC' : ∀ y x, y < 2 ^ j → x < 2 ^ i → (gAcross (c == 84) (2 ^ j) g y x).length = C + C := fun y x hy hx => by
        unfold gAcross
        rw [List.length_append, turnL_len, hC _ x (by rw [hH]; unfold ovr; split <;> omega) hx, hC _ x (by rw [hH]; unfold und; split <;> omega) hx]
      obtain ⟨j2, j3⟩ := ih (pos + 1) i j (C + C) (gAcross (c == 84) (2 ^ j) g) (by omega) hall' (by omega) (by omega) hi (by omega) hC' h64'
      have a2 := halved_across (c == 84) ⟨hH0, hH4⟩ hW8 hg
      rcases h2 with rfl | rfl
      · have hb' : bt s (pos : Int) = 84 := hb
        exact ⟨ifold_step true true (by omega) (by omega) (.inl ⟨hb', rfl, rfl⟩) a2 j2, j3.trans hlen'⟩
      · have hb' : bt s (pos : Int) = 66 := hb
        exact ⟨ifold_step true false (by omega) (by omega) (.inr (.inr (.inr ⟨hb', rfl, rfl⟩))) a2 j2, j3.trans hlen'⟩
theorem leaves_twoI {a b : Int} {s : ByteArray} {i j : Nat} (hi : i ≤ 3) (hj : j ≤ 3) (ha : a = ((2 ^ i : Nat) : Int)) (hb : b = ((2 ^ j : Nat) : Int)) (hall : ∀ x ∈ s.data.toList, ([76, 82, 84, 66] : List UInt8).contains x = true) (hl : lrc s.data.toList = i) (hn : s.data.toList.length = i + j) :
    Ev (fun k => impl_foldSheet.f k a b s) (gfold s.data.toList (2 ^ j) (2 ^ i) g0) ∧ (gfold s.data.toList (2 ^ j) (2 ^ i) g0).length = 2 ^ (i + j) := by
  have hz : s.size = s.data.toList.length := by simp
  subst ha hb
  have hW8 : 2 ^ i ≤ 8 := p2le (n := 3) hi
  have hH8 : 2 ^ j ≤ 8 := p2le (n := 3) hj
  obtain ⟨h2, h3⟩ := leaves_loopI s (by omega) s.size 0 i j 1 g0 (by omega) hall hl (by omega) hi hj (fun _ _ _ _ => rfl) (by rw [Nat.one_mul]; exact p2le (n := 6) (by omega))
  rw [List.drop_zero] at h2 h3
  refine ⟨implStart_ev s hH8 hW8 _ h2, ?_⟩
  · rw [h3, hz, hn, Nat.one_mul]
theorem p2inj {i j : Nat} (h : ((2 ^ i : Nat) : Int) = ((2 ^ j : Nat) : Int)) : i = j := (Nat.pow_right_inj (by omega : 1 < 2)).1 (Int.ofNat.inj h)
theorem isSide_ok {i : Nat} (hi : i ≤ 3) : impl_isSide.f ((2 ^ i : Nat) : Int) = some true := by
  have h : ∀ i : Fin 4, impl_isSide.f ((2 ^ i.val : Nat) : Int) = some true := by decide +kernel
  exact h ⟨i, by omega⟩
theorem halv_ok {i : Nat} (hi : i ≤ 3) : Ev (fun k => impl_halvings.f k ((2 ^ i : Nat) : Int)) (i : Int) := by
  rcases side_cases ((2 ^ i : Nat) : Int) with ⟨j, _, j2, _, _, j5⟩ | ⟨_, j4⟩
  · rw [← p2inj j2] at j5
    exact j5
  · rw [isSide_ok hi] at j4
    cases j4
theorem isScheme_ok {a b : Int} {s : ByteArray} (h : okSch a b s) : Ev (fun k => impl_IsScheme.f k a b s) true := by
  obtain ⟨i, j, hi, hj, ha, hb, hall, hl, hn⟩ := h
  have hz : s.size = s.data.toList.length := by simp
  have hlr : lrcount s = lrc s.data.toList := rfl
  subst ha hb
  have hsh : impl_isSheet.f ((2 ^ i : Nat) : Int) ((2 ^ j : Nat) : Int) = some true := by unfold impl_isSheet.f; rw [isSide_ok hi, isSide_ok hj]; rfl
  unfold impl_IsScheme.f
  rw [hsh]
  have e : decide ((s.size : Int) - (lrcount s : Int) = (j : Int)) = true := decide_eq_true (by rw [hlr, hl]; omega)
  exact Ev.bind (Ev.now _) (Ev_ite_t rfl (Ev_ite_t (by omega) (Ev_ite_t ((trim_nil _ _).2 hall) (Ev.bind (halv_ok hi) (Ev_ite_t (by rw [hlr, hl]) (Ev.bind (halv_ok hj) (Ev.congr (fun k => congrArg some e) (Ev.now true))))))))
theorem code_ok {a b : Int} {s : ByteArray} (h : okSch a b s) : Ev (fun k => impl_checkScheme.f k a b s) 0 := by
  obtain ⟨i, j, hi, hj, ha, hb, _⟩ := id h
  have hsh : impl_isSheet.f a b = some true := by rw [ha, hb]; unfold impl_isSheet.f; rw [isSide_ok hi, isSide_ok hj]; rfl
  unfold impl_checkScheme.f
  rw [hsh]
  exact Ev.bind (Ev.now _) (Ev_ite_t rfl (Ev.bind (isScheme_ok h) (Ev_ite_t rfl (Ev.now _))))
def sumN : Nat → (Nat → Nat) → Nat
  | 0, _ => 0
  | n + 1, f => sumN n f + f n
theorem sumN_congr {n : Nat} {f g : Nat → Nat} (h : ∀ i, i < n → f i = g i) : sumN n f = sumN n g := by
  induction n with
  | zero => rfl
  | succ n ih => rw [sumN, sumN, ih (fun i hi => h i (by omega)), h n (by omega)]
theorem sumN_plus (m n : Nat) (f : Nat → Nat) : sumN (m + n) f = sumN m f + sumN n (fun i => f (m + i)) := by
  induction n with
  | zero => rfl
  | succ n ih => rw [← Nat.add_assoc, sumN, ih, sumN]; omega
theorem sumN_rev (n : Nat) (f : Nat → Nat) : sumN n f = sumN n (fun i => f (n - 1 - i)) := by
  induction n generalizing f with
  | zero => rfl
  | succ n ih =>
    rw [sumN, ih f, Nat.add_comm n 1, sumN_plus 1 n]
    show _ = (0 + f (1 + n - 1 - 0)) + _
    rw [show 1 + n - 1 - 0 = n by omega, Nat.zero_add, Nat.add_comm]
    congr 1
    exact sumN_congr (fun i hi => by rw [show 1 + n - 1 - (1 + i) = n - 1 - i by omega])
theorem sumN_add (n : Nat) (f g : Nat → Nat) : sumN n (fun i => f i + g i) = sumN n f + sumN n g := by
  induction n with
  | zero => rfl
  | succ n ih => rw [sumN, sumN, sumN, ih]; omega
theorem sumN_fold (b : Bool) (n : Nat) (f : Nat → Nat) : sumN (2 * n) f = sumN n (fun i => f (ovr b n i) + f (und b n i)) := by
  rw [sumN_add, Nat.two_mul, sumN_plus]
  cases b
  · rw [show sumN n (fun i => f (und false n i)) = sumN n f from rfl, sumN_rev n (fun i => f (n + i)), Nat.add_comm]
    congr 1
    exact sumN_congr (fun i hi => by show f (n + (n - 1 - i)) = f (2 * n - 1 - i); rw [show n + (n - 1 - i) = 2 * n - 1 - i by omega])
  · rw [show sumN n (fun i => f (und true n i)) = sumN n (fun i => f (n + i)) from rfl, sumN_rev n f]
    rfl
theorem turn_count {P : SL → Bool} (hP : ∀ a x, P (spec_l04Turn.togg a x) = P x) (a : Bool) (l : List SL) : (turnL a l).countP P = l.countP P := by
  unfold turnL
  rw [List.countP_map, List.countP_reverse]
  congr 1
  funext x
  exact hP a x
def gsum (P : SL → Bool) (H W : Nat) (g : Nat → Nat → List SL) : Nat := sumN H (fun y => sumN W (fun x => (g y x).countP P))
theorem gsum_along {P : SL → Bool} (hP : ∀ a x, P (spec_l04Turn.togg a x) = P x) (b : Bool) (H W : Nat) (g : Nat → Nat → List SL) : gsum P H W (gAlong b W g) = gsum P H (2 * W) g := by
  unfold gsum
  refine sumN_congr (fun y _ => ?_)
  rw [sumN_fold b]
  refine sumN_congr (fun x _ => ?_)
  unfold gAlong
  rw [List.countP_append, turn_count hP]
theorem gsum_across {P : SL → Bool} (hP : ∀ a x, P (spec_l04Turn.togg a x) = P x) (b : Bool) (H W : Nat) (g : Nat → Nat → List SL) : gsum P H W (gAcross b H g) = gsum P (2 * H) W g := by
  unfold gsum
  rw [sumN_fold b]
  refine sumN_congr (fun y _ => ?_)
  rw [← sumN_add]
  refine sumN_congr (fun x _ => ?_)
  unfold gAcross
  rw [List.countP_append, turn_count hP]
theorem gfold_count {P : SL → Bool} (hP : ∀ a x, P (spec_l04Turn.togg a x) = P x) : ∀ (t : List UInt8) (i j : Nat) (g : Nat → Nat → List SL), lrc t = i → t.length = i + j → (gfold t (2 ^ j) (2 ^ i) g).countP P = gsum P (2 ^ j) (2 ^ i) g
  | [], i, j, g, h1, h2 => by
    obtain rfl : i = 0 := by rw [← h1]; rfl
    obtain rfl : j = 0 := by simpa using h2.symm
    show (g 0 0).countP P = 0 + (0 + (g 0 0).countP P)
    omega
  | c :: t, i, j, g, h1, h2 => by
    rw [lrc_cons] at h1
    rw [List.length_cons] at h2
    have hle := lrc_le t
    rw [gfold]
    by_cases hc : c = 76 ∨ c = 82
    · rw [if_pos hc] at h1
      obtain ⟨i, rfl⟩ : ∃ q, i = q + 1 := ⟨i - 1, by omega⟩
      rw [if_pos hc, Nat.pow_succ 2 i, Nat.mul_comm (2 ^ i) 2, Nat.mul_div_cancel_left _ (by omega : 0 < 2), gfold_count hP t i j _ (by omega) (by omega), gsum_along hP]
    · rw [if_neg hc] at h1
      obtain ⟨j, rfl⟩ : ∃ q, j = q + 1 := ⟨j - 1, by omega⟩
      rw [if_neg hc, Nat.pow_succ 2 j, Nat.mul_comm (2 ^ j) 2, Nat.mul_div_cancel_left _ (by omega : 0 < 2), gfold_count hP t i j _ (by omega) (by omega), gsum_across hP]
def outL (W H : Nat) (v : SL) : Bool := !decide (0 ≤ v.f0 ∧ v.f0 < (W : Int) ∧ 0 ≤ v.f1 ∧ v.f1 < (H : Int))
theorem outL_togg (W H : Nat) (a : Bool) (v : SL) : outL W H (spec_l04Turn.togg a v) = outL W H v := by cases a <;> rfl
theorem sumN_zero (m : Nat) : sumN m (fun _ => 0) = 0 := by
  induction m with
  | zero => rfl
  | succ m ih => rw [sumN, ih]
theorem fold_in {s : List UInt8} {i j : Nat} (hl : lrc s = i) (hn : s.length = i + j) : ∀ v ∈ gfold s (2 ^ j) (2 ^ i) g0, 0 ≤ v.f0 ∧ v.f0 < ((2 ^ i : Nat) : Int) ∧ 0 ≤ v.f1 ∧ v.f1 < ((2 ^ j : Nat) : Int) := by
  have h := gfold_count (outL_togg (2 ^ i) (2 ^ j)) s i j g0 hl hn
  have hz : gsum (outL (2 ^ i) (2 ^ j)) (2 ^ j) (2 ^ i) g0 = 0 := by
    unfold gsum
    rw [← sumN_zero (2 ^ j)]
    refine sumN_congr (fun y hy => ?_)
    rw [← sumN_zero (2 ^ i)]
    refine sumN_congr (fun x hx => ?_)
    have hp : outL (2 ^ i) (2 ^ j) ⟨(x : Int), (y : Int), false, false⟩ = false := by
      unfold outL
      rw [decide_eq_true ⟨nn x, ltc hx, nn y, ltc hy⟩]
      rfl
    show ([⟨(x : Int), (y : Int), false, false⟩] : List SL).countP (outL (2 ^ i) (2 ^ j)) = 0
    rw [List.countP_cons, hp]
    rfl
  rw [hz, List.countP_eq_zero] at h
  intro v hv
  have := h v hv
  unfold outL at this
  simpa using this
def Src (c : List Int) (a s : Int) : Prop := c.length ≤ 4096 ∧ (∀ x ∈ c, 0 ≤ x ∧ x ≤ 255) ∧ 0 ≤ a ∧ a ≤ c.length ∧ 0 ≤ s ∧ s < 2147483647
theorem tmod_range {x m : Int} (h : 0 ≤ x) (hm : 0 < m) : 0 ≤ Int.tmod x m ∧ Int.tmod x m < m := ⟨Int.tmod_nonneg _ h, Int.tmod_lt_of_pos _ hm⟩
theorem rd_byte {c : List Int} (hc : ∀ x ∈ c, 0 ≤ x ∧ x ≤ 255) (i : Int) : 0 ≤ rd c i ∧ rd c i ≤ 255 := by
  unfold rd
  by_cases h : i.toNat < c.length
  · simp only [List.getD_eq_getElem?_getD, List.getElem?_eq_getElem h, Option.getD_some]
    exact hc _ (List.getElem_mem h)
  · simp only [List.getD_eq_getElem?_getD, List.getElem?_eq_none (Nat.le_of_not_lt h), Option.getD_none]
    omega
theorem next_ok {c : List Int} {a s : Int} (h : Src c a s) (n : Int) (hn : n ≤ 9000000000000000000) :
    ∃ r a' s', spec_l01Next.f c a s n = some (r, a', s') ∧ Src c a' s' ∧ 0 ≤ r ∧ (1 ≤ n → r < n) := by
  obtain ⟨h1, h2, h3, h4, h5, h6⟩ := h
  unfold spec_l01Next.f
  by_cases hn1 : n ≤ 1
  · rw [if_pos hn1]
    exact ⟨0, a, s, rfl, ⟨h1, h2, h3, h4, h5, h6⟩, by omega, by omega⟩
  · rw [if_neg hn1]
    have e1 : wrap64 (wrap64 (s * 48271) + 61) = s * 48271 + 61 := by rw [w64 (x := s * 48271) (by omega) (by omega), w64 (by omega) (by omega)]
    rw [e1]
    have m1 := tmod_range (x := s * 48271 + 61) (m := 2147483647) (by omega) (by omega)
    generalize Int.tmod (s * 48271 + 61) 2147483647 = s1 at *
    have d1 : 0 ≤ Int.tdiv s1 31 ∧ Int.tdiv s1 31 ≤ 2147483647 := by
      rw [Int.tdiv_eq_ediv_of_nonneg m1.1]; omega
    rw [w64 (x := Int.tdiv s1 31) (by omega) (by omega)]
    generalize Int.tdiv s1 31 = q at *
    by_cases ha : a < (c.length : Int)
    · have e2 : wrap64 (a + 1) = a + 1 := w64 (by omega) (by omega)
      have e3 : wrap64 (a + 1 - 1) = a := by rw [w64 (by omega) (by omega)]; omega
      have b1 := rd_byte h2 a
      rw [if_pos ha, if_pos h3, e2, e3, w64 (x := rd c a) (by omega) (by omega), w64 (x := q + rd c a) (by omega) (by omega)]
      have r1 := tmod_range (x := rd c a) (m := n) b1.1 (by omega)
      have r2 := tmod_range (x := q + rd c a) (m := n) (by omega) (by omega)
      have hs : Src c (a + 1) s1 := ⟨h1, h2, by omega, by omega, m1.1, m1.2⟩
      by_cases hb : n ≤ 256
      · rw [if_pos hb]
        by_cases hc : Int.tmod (a + 1) 2 = 0
        · rw [if_pos hc, if_pos h3, if_pos ha, if_neg (by omega)]
          exact ⟨_, _, _, rfl, hs, r1.1, fun _ => r1.2⟩
        · rw [if_neg hc, if_neg (by omega)]
          exact ⟨_, _, _, rfl, hs, r2.1, fun _ => r2.2⟩
      · rw [if_neg hb, if_neg (by omega)]
        exact ⟨_, _, _, rfl, hs, r2.1, fun _ => r2.2⟩
    · rw [if_neg ha, if_neg (by omega)]
      have r1 := tmod_range (x := q) (m := n) (by omega) (by omega)
      exact ⟨_, _, _, rfl, ⟨h1, h2, h3, h4, m1.1, m1.2⟩, r1.1, fun _ => r1.2⟩
theorem from_ok (c : List Int) (hc : c.length ≤ 4096) (hb : ∀ x ∈ c, 0 ≤ x ∧ x ≤ 255) : ∃ a s, Ev (fun k => spec_l01From.f k c) (c, a, s) ∧ Src c a s := by
  have loop : ∀ (d i : Nat), i + d = c.length → ∀ s : Int, 0 ≤ s → s < 2147483647 → ∃ s', 0 ≤ s' ∧ s' < 2147483647 ∧ Ev (fun k => spec_l01From.l0 k c (i : Int) c 0 s) (c, 0, s') := by
    intro d
    induction d with
    | zero =>
      intro i hi s h0 h1
      exact ⟨s, h0, h1, Ev.step (f := fun _ => some (c, 0, s)) (fun k => by rw [spec_l01From.l0, if_neg (by omega)]) (Ev.now _)⟩
    | succ d ih =>
      intro i hi s h0 h1
      by_cases h64 : i < 64
      · have b1 := rd_byte hb (i : Int)
        have e1 : wrap64 (wrap64 (s * 71) + wrap64 (rd c (i : Int))) = s * 71 + rd c (i : Int) := by
          rw [w64 (x := s * 71) (by omega) (by omega), w64 (x := rd c (i : Int)) (by omega) (by omega), w64 (by omega) (by omega)]
        have m1 := tmod_range (x := s * 71 + rd c (i : Int)) (m := 2147483647) (by omega) (by omega)
        obtain ⟨s', g0, g1, g2⟩ := ih (i + 1) (by omega) (Int.tmod (s * 71 + rd c (i : Int)) 2147483647) m1.1 m1.2
        refine ⟨s', g0, g1, Ev.step (fun k => ?_) g2⟩
        rw [spec_l01From.l0, if_pos (by omega), if_pos (by omega), if_pos (by omega), w64n i (by omega), e1]
      · exact ⟨s, h0, h1, Ev.step (f := fun _ => some (c, 0, s)) (fun k => by rw [spec_l01From.l0, if_pos (by omega), if_neg (by omega)]) (Ev.now _)⟩
  obtain ⟨s', g0, g1, g2⟩ := loop c.length 0 (by omega) 88007 (by omega) (by omega)
  exact ⟨0, s', Ev.congr (fun k => rfl) g2, hc, hb, by omega, by omega, g0, g1⟩
theorem pick_ok {c : List Int} {a s : Int} (h : Src c a s) (l : List Int) (h0 : 0 < l.length) (h1 : l.length ≤ 1000) :
    ∃ r a' s', spec_l01Pick.f c a s l = some (r, a', s') ∧ Src c a' s' ∧ r ∈ l := by
  obtain ⟨r, a', s', e, hs, h2, h3⟩ := next_ok h (l.length : Int) (by omega)
  have h4 := h3 (by omega)
  unfold spec_l01Pick.f
  rw [e]
  simp only [Option.bind_some]
  rw [if_pos h2, if_pos h4]
  refine ⟨_, _, _, rfl, hs, ?_⟩
  obtain ⟨m, rfl⟩ := Int.eq_ofNat_of_zero_le h2
  exact rd_mem (by omega)
theorem strOf_size (l : List Int) : (strOfNums l).size = l.length := by
  show (List.map _ l).toArray.size = _
  simp
theorem drawSide_ok {c : List Int} {a s : Int} (h : Src c a s) : ∃ r a' s', spec_l04DrawSide.f c a s = some (r, a', s') ∧ Src c a' s' ∧ -1 ≤ r ∧ r ≤ 16 := by
  obtain ⟨m, a1, s1, e1, h1, _, _⟩ := next_ok h 40 (by omega)
  unfold spec_l04DrawSide.f
  rw [e1]
  simp only [Option.bind_some]
  by_cases hm : m = 0
  · obtain ⟨r, a2, s2, e2, h2, h3⟩ := pick_ok h1 [0, 3, (-1), 16] (by simp) (by simp)
    rw [if_pos hm, e2]
    refine ⟨r, a2, s2, rfl, h2, ?_⟩
    simp only [List.mem_cons, List.not_mem_nil, or_false] at h3
    omega
  · obtain ⟨r, a2, s2, e2, h2, h3⟩ := pick_ok h1 [1, 2, 2, 4, 4, 8] (by simp) (by simp)
    rw [if_neg hm, e2]
    refine ⟨r, a2, s2, rfl, h2, ?_⟩
    simp only [List.mem_cons, List.not_mem_nil, or_false] at h3
    omega
theorem power_ok (a : Int) : ∃ (j : Nat) (q : Bool), j ≤ 3 ∧ spec_l04Power.f a = some ((j : Int), q) := by
  unfold spec_l04Power.f
  by_cases h1 : a = 1
  · exact ⟨0, true, by decide, if_pos h1⟩
  by_cases h2 : a = 2
  · exact ⟨1, true, by decide, by rw [if_neg h1, if_pos h2]; rfl⟩
  by_cases h4 : a = 4
  · exact ⟨2, true, by decide, by rw [if_neg h1, if_neg h2, if_pos h4]; rfl⟩
  by_cases h8 : a = 8
  · exact ⟨3, true, by decide, by rw [if_neg h1, if_neg h2, if_neg h4, if_pos h8]; rfl⟩
  · exact ⟨0, false, by decide, by rw [if_neg h1, if_neg h2, if_neg h4, if_neg h8]; rfl⟩
theorem drawSheet_ok {c : List Int} {a s : Int} (h0 : Src c a s) : ∃ w h t a' s', Ev (fun k => spec_l04Draw.f k c a s) (w, h, t, a', s') ∧ Src c a' s' ∧ t.size ≤ 7 ∧ -1 ≤ w ∧ w ≤ 16 ∧ -1 ≤ h ∧ h ≤ 16 := by
  obtain ⟨w, a1, s1, e1, h1, w0, w1⟩ := drawSide_ok h0
  obtain ⟨h, a2, s2, e2, h2, v0, v1⟩ := drawSide_ok h1
  obtain ⟨i, qi, i1, e3⟩ := power_ok w
  obtain ⟨j, qj, j1, e4⟩ := power_ok h
  have loop : ∀ (d i j : Nat) (x : List Int) (a s : Int), i + j = d → Src c a s → x.length + d ≤ 6 → ∃ t a' s', Ev (fun k => spec_l04Draw.l0 k w h (i : Int) (j : Int) x c a s) (w, h, t, a', s') ∧ Src c a' s' ∧ t.size ≤ 7 := by
    intro d
    induction d with
    | zero =>
      intro i j x a s hd h hx
      obtain ⟨m, a2, s2, e2, h2, m0, _⟩ := next_ok h 40 (by omega)
      have hz := strOf_size x
      have hg : ¬ wrap64 ((i : Int) + (j : Int)) > 0 := by rw [w64 (by omega) (by omega)]; omega
      by_cases m1 : m = 0
      · refine ⟨_, a2, s2, Ev.step (f := fun _ => some (w, _, (strOfNums x) ++ (⟨#[76]⟩ : ByteArray), a2, s2)) (fun k => ?_) (Ev.now _), h2, ?_⟩
        · rw [spec_l04Draw.l0, if_neg hg, e2]
          simp only [Option.bind_some]
          rw [if_pos m1, if_pos (by omega)]
        · rw [ByteArray.size_append]
          show (strOfNums x).size + 1 ≤ 7
          omega
      · by_cases m2 : m = 1
        · refine ⟨_, a2, s2, Ev.step (f := fun _ => some (w, _, (⟨#[120]⟩ : ByteArray), a2, s2)) (fun k => ?_) (Ev.now _), h2, (show 1 ≤ 7 by omega)⟩
          rw [spec_l04Draw.l0, if_neg hg, e2]
          simp only [Option.bind_some]
          rw [if_neg m1, if_pos m2]
        · refine ⟨_, a2, s2, Ev.step (f := fun _ => some (w, _, strOfNums x, a2, s2)) (fun k => ?_) (Ev.now _), h2, by omega⟩
          rw [spec_l04Draw.l0, if_neg hg, e2]
          simp only [Option.bind_some]
          rw [if_neg m1, if_neg m2]
    | succ d ih =>
      intro i j x a s hd h hx
      have hw : wrap64 ((i : Int) + (j : Int)) = (i : Int) + (j : Int) := w64 (by omega) (by omega)
      have hg : wrap64 ((i : Int) + (j : Int)) > 0 := by rw [hw]; omega
      obtain ⟨p, a1, s1, e1, h1, p0, p1⟩ := next_ok h ((i : Int) + (j : Int)) (by omega)
      have p2 := p1 (by omega)
      obtain ⟨m, a2, s2, e2, h2, m0, m1⟩ := next_ok h1 2 (by omega)
      have m2 := m1 (by omega)
      by_cases hp : p < (i : Int)
      · obtain ⟨t, a', s', g1, g2, g3⟩ := ih (i - 1) j (x ++ [bt (⟨#[76, 82]⟩ : ByteArray) m]) a2 s2 (by omega) h2 (by rw [List.length_append]; simp; omega)
        refine ⟨t, a', s', Ev.step (fun k => ?_) g1, g2, g3⟩
        rw [spec_l04Draw.l0, if_pos hg, hw, e1]
        simp only [Option.bind_some]
        rw [if_pos hp, e2]
        simp only [Option.bind_some]
        rw [if_pos m0, if_pos m2, if_pos (by omega), w64 (x := (i : Int) - 1) (by omega) (by omega), show (i : Int) - 1 = ((i - 1 : Nat) : Int) by omega]
      · obtain ⟨t, a', s', g1, g2, g3⟩ := ih i (j - 1) (x ++ [bt (⟨#[84, 66]⟩ : ByteArray) m]) a2 s2 (by omega) h2 (by rw [List.length_append]; simp; omega)
        refine ⟨t, a', s', Ev.step (fun k => ?_) g1, g2, g3⟩
        rw [spec_l04Draw.l0, if_pos hg, hw, e1]
        simp only [Option.bind_some]
        rw [if_neg hp, e2]
        simp only [Option.bind_some]
        rw [if_pos m0, if_pos m2, if_pos (by omega), w64 (x := (j : Int) - 1) (by omega) (by omega), show (j : Int) - 1 = ((j - 1 : Nat) : Int) by omega]
  obtain ⟨t, a', s', g1, g2, g3⟩ := loop (i + j) i j [] a2 s2 rfl h2 (by simp; omega)
  refine ⟨w, h, t, a', s', ?_, g2, g3, w0, w1, v0, v1⟩
  unfold spec_l04Draw.f
  simp only [e1, e2, e3, e4, Option.bind_some]
  exact g1
def mirL (n : Int) (v : SL) : SL := ⟨n - 1 - v.f0, v.f1, v.f2, v.f3⟩
theorem mirL_togg (n : Int) (a : Bool) (v : SL) : mirL n (spec_l04Turn.togg a v) = spec_l04Turn.togg a (mirL n v) := by cases a <;> rfl
theorem mirL_turn (n : Int) (a : Bool) (l : List SL) : (turnL a l).map (mirL n) = turnL a (l.map (mirL n)) := by
  unfold turnL
  rw [List.map_map, ← List.map_reverse, List.map_map]
  exact List.map_congr_left (fun v _ => mirL_togg n a v)
theorem miSw_keep {c : UInt8} (h : ¬ (c = 76 ∨ c = 82)) : miSw c = c := by
  unfold miSw
  rw [if_neg (fun e => h (.inl e)), if_neg (fun e => h (.inr e))]
theorem gfold_mir (n : Int) : ∀ (t : List UInt8) (i j : Nat) (g g' : Nat → Nat → List SL), lrc t = i → t.length = i + j → (∀ y x, y < 2 ^ j → x < 2 ^ i → g' y x = (g y (2 ^ i - 1 - x)).map (mirL n)) → gfold (t.map miSw) (2 ^ j) (2 ^ i) g' = (gfold t (2 ^ j) (2 ^ i) g).map (mirL n)
  | [], i, j, g, g', h1, h2, hg => by
    obtain rfl : i = 0 := by rw [← h1]; rfl
    obtain rfl : j = 0 := by simpa using h2.symm
    show g' 0 0 = (g 0 0).map (mirL n)
    rw [hg 0 0 (by decide) (by decide)]
  | c :: t, i, j, g, g', h1, h2, hg => by
    rw [lrc_cons] at h1
    rw [List.length_cons] at h2
    have hle := lrc_le t
    rw [List.map_cons, gfold, gfold]
    by_cases hc : c = 76 ∨ c = 82
    · rw [if_pos hc] at h1
      obtain ⟨i, rfl⟩ : ∃ q, i = q + 1 := ⟨i - 1, by omega⟩
      have hW : 2 ^ (i + 1) = 2 * 2 ^ i := by rw [Nat.pow_succ, Nat.mul_comm]
      have hm : miSw c = 76 ∨ miSw c = 82 := by rcases hc with rfl | rfl; exact .inr rfl; exact .inl rfl
      rw [if_pos hc, if_pos hm, hW, Nat.mul_div_cancel_left _ (by omega : 0 < 2)]
      rw [hW] at hg
      refine gfold_mir n t i j _ _ (by omega) (by omega) (fun y x hy hx => ?_)
      rcases hc with rfl | rfl
      · show gAlong false (2 ^ i) g' y x = (gAlong true (2 ^ i) g y (2 ^ i - 1 - x)).map (mirL n)
        rw [gA_t, gA_f, List.map_append, mirL_turn, hg y _ hy (by omega : 2 * 2 ^ i - 1 - x < 2 * 2 ^ i), hg y x hy (by omega)]
        rw [show 2 * 2 ^ i - 1 - (2 * 2 ^ i - 1 - x) = x by omega, show 2 ^ i - 1 - (2 ^ i - 1 - x) = x by omega, show 2 ^ i + (2 ^ i - 1 - x) = 2 * 2 ^ i - 1 - x by omega]
      · show gAlong true (2 ^ i) g' y x = (gAlong false (2 ^ i) g y (2 ^ i - 1 - x)).map (mirL n)
        rw [gA_t, gA_f, List.map_append, mirL_turn, hg y _ hy (by omega : 2 ^ i - 1 - x < 2 * 2 ^ i), hg y _ hy (by omega : 2 ^ i + x < 2 * 2 ^ i)]
        rw [show 2 * 2 ^ i - 1 - (2 ^ i - 1 - x) = 2 ^ i + x by omega, show 2 * 2 ^ i - 1 - (2 ^ i + x) = 2 ^ i - 1 - x by omega]
    · rw [if_neg hc] at h1
      obtain ⟨j, rfl⟩ : ∃ q, j = q + 1 := ⟨j - 1, by omega⟩
      have hH : 2 ^ (j + 1) = 2 * 2 ^ j := by rw [Nat.pow_succ, Nat.mul_comm]
      rw [miSw_keep hc, if_neg hc, if_neg hc, hH, Nat.mul_div_cancel_left _ (by omega : 0 < 2)]
      rw [hH] at hg
      refine gfold_mir n t i j _ _ (by omega) (by omega) (fun y x hy hx => ?_)
      unfold gAcross
      rw [List.map_append, mirL_turn, hg _ x (by unfold ovr; split <;> omega) hx, hg _ x (by unfold und; split <;> omega) hx]
theorem lrc_mir : ∀ t : List UInt8, lrc (t.map miSw) = lrc t
  | [] => rfl
  | c :: t => by
    rw [List.map_cons, lrc_cons, lrc_cons, lrc_mir t]
    by_cases hc : c = 76 ∨ c = 82
    · have hm : miSw c = 76 ∨ miSw c = 82 := by rcases hc with rfl | rfl; exact .inr rfl; exact .inl rfl
      rw [if_pos hc, if_pos hm]
    · rw [miSw_keep hc]
theorem contains_mir {c : UInt8} (h : ([76, 82, 84, 66] : List UInt8).contains c = true) : ([76, 82, 84, 66] : List UInt8).contains (miSw c) = true := by
  by_cases hc : c = 76 ∨ c = 82
  · rcases hc with rfl | rfl <;> decide
  · rw [miSw_keep hc]; exact h
theorem okSch_mir {a b : Int} {s : ByteArray} (h : okSch a b s) : okSch a b (mirT s) := by
  obtain ⟨i, j, hi, hj, ha, hb, hall, hl, hn⟩ := h
  have e : (mirT s).data.toList = s.data.toList.map miSw := rfl
  refine ⟨i, j, hi, hj, ha, hb, fun x hx => ?_, by rw [e, lrc_mir, hl], by rw [e, List.length_map, hn]⟩
  rw [e, List.mem_map] at hx
  obtain ⟨y, hy, rfl⟩ := hx
  exact contains_mir (hall y hy)
theorem leaves_mir {a b : Int} {s : ByteArray} (h : okSch a b s) : ∃ l : List SL, Ev (fun k => impl_foldSheet.f k a b s) l ∧ Ev (fun k => impl_foldSheet.f k a b (mirT s)) (l.map (mirL a)) ∧ l.length ≤ 64 ∧ (∀ v ∈ l, 0 ≤ v.f0 ∧ v.f0 < a) ∧ a ≤ 8 := by
  obtain ⟨i, j, hi, hj, ha, hb, hall, hl, hn⟩ := h
  obtain ⟨h1, h2⟩ := leaves_twoI hi hj ha hb hall hl hn
  have e : (mirT s).data.toList = s.data.toList.map miSw := rfl
  obtain ⟨g1, _⟩ := leaves_twoI (s := mirT s) hi hj ha hb (fun x hx => by
    rw [e, List.mem_map] at hx
    obtain ⟨y, hy, rfl⟩ := hx
    exact contains_mir (hall y hy)) (by rw [e, lrc_mir, hl]) (by rw [e, List.length_map, hn])
  rw [e, gfold_mir a s.data.toList i j g0 g0 hl hn (fun y x hy hx => by
    show [(⟨(x : Int), (y : Int), false, false⟩ : SL)] = [(⟨a - 1 - ((2 ^ i - 1 - x : Nat) : Int), (y : Int), false, false⟩ : SL)]
    rw [ha, show ((2 ^ i : Nat) : Int) - 1 - ((2 ^ i - 1 - x : Nat) : Int) = (x : Int) by omega])] at g1
  have h8 : 2 ^ i ≤ 8 := p2le (n := 3) hi
  refine ⟨_, h1, g1, by rw [h2]; exact p2le (n := 6) (by omega), fun v hv => ?_, by omega⟩
  have := fold_in hl hn v hv
  rw [ha]
  exact ⟨this.1, this.2.1⟩
theorem rdL_get {xs : List SL} {i : Nat} (h : i < xs.length) : rd_T41 xs (i : Int) = xs[i] := by
  simp [rd_T41, List.getD_eq_getElem?_getD, h]
theorem mirror_loop {a : Int} (l : List SL) (h64 : l.length ≤ 64) (ha : a ≤ 8) (hin : ∀ v ∈ l, 0 ≤ v.f0 ∧ v.f0 < a) : ∀ (d i : Nat), i + d = l.length → Ev (fun k => laws_FnMirroredSheets.l0 k a l (l.map (mirL a)) (i : Int)) true := by
  intro d
  induction d with
  | zero =>
    intro i hi
    exact Ev.step (f := fun _ => some true) (fun k => by rw [laws_FnMirroredSheets.l0, if_neg (by omega)]) (Ev.now _)
  | succ d ih =>
    intro i hi
    have hl : i < l.length := by omega
    have hm : i < (l.map (mirL a)).length := by rw [List.length_map]; exact hl
    have q := hin _ (List.getElem_mem hl)
    refine Ev.step (fun k => ?_) (ih (i + 1) (by omega))
    rw [laws_FnMirroredSheets.l0, if_pos (by omega), if_pos (by omega), if_pos (by omega), rdL_get hl, rdL_get hm, List.getElem_map]
    rw [w64 (x := a - 1) (by omega) (by omega), w64 (x := a - 1 - l[i].f0) (by omega) (by omega), w64n i (by omega)]
    rw [if_neg (by simp [mirL])]
theorem FnMirroredSheets : laws_FnMirroredSheets.Pure := by
  intro c hc1 hc2 hw
  apply Ev.rounds
  unfold laws_FnMirroredSheets.f laws_big.f
  simp only [Option.bind_some, decide_eq_true_eq]
  by_cases hb : (c.length : Int) > 4096
  · exact Ev_ite_t hb (Ev.now _)
  · refine Ev_ite_f hb ?_
    have hbytes : ∀ x ∈ c, 0 ≤ x ∧ x ≤ 255 := fun x hx => wf8 (hw x hx)
    obtain ⟨a, s, hf, h0⟩ := from_ok c (by omega) hbytes
    obtain ⟨w, h, t, a', s', d1, d2, d3, d4, d5, d6, d7⟩ := drawSheet_ok h0
    have hd : Ev (fun k => spec_DrawMirrorScheme.f k c) (w, h, t) := by
      unfold spec_DrawMirrorScheme.f
      exact Ev.bind hf (Ev.bind d1 (Ev.now _))
    obtain ⟨cd, k1, k2, _, _, k5⟩ := codes_two w h t (by omega)
    obtain ⟨v, g1, g2, g3, g4⟩ := mirrorS_two (by omega) k1 k2
    refine Ev.bind hd (Ev.bind g2 (Ev.bind g1 (Ev_ite_t rfl ?_)))
    by_cases hz : cd = 0
    · have hok := k5 hz
      obtain ⟨l, l1, l2, l3, l4, l5⟩ := leaves_mir hok
      have f1 : Ev (fun k => impl_FoldSheet.f k w h t) (l, 0) := by
        unfold impl_FoldSheet.f
        exact Ev.bind (code_ok hok) (Ev_ite_t rfl (Ev.bind l1 (Ev.now _)))
      have f2 : Ev (fun k => impl_FoldSheet.f k w h v.1) (l.map (mirL w), 0) := by
        rw [g4 hz]
        unfold impl_FoldSheet.f
        exact Ev.bind (code_ok (okSch_mir hok)) (Ev_ite_t rfl (Ev.bind l2 (Ev.now _)))
      refine Ev.step (fun k => by rw [laws_FnMirroredSheets.j0, if_neg (by simp), if_pos (g3.trans hz)]) (Ev.bind f1 (Ev.bind f2 (Ev_ite_t rfl (Ev_ite_t rfl ?_))))
      refine Ev.step (fun k => by rw [laws_FnMirroredSheets.j1, if_neg (by simp)]) ?_
      exact Ev.congr (fun k => rfl) (mirror_loop l l3 l5 l4 l.length 0 (by omega))
    · exact Ev.step (f := fun _ => some true) (fun k => by rw [laws_FnMirroredSheets.j0, if_neg (by simp), if_neg (fun e => hz (g3.symm.trans e))]) (Ev.now _)

end Go.Proofs.YtdpmpoakjhhaaaaGreatDoor.Pure
