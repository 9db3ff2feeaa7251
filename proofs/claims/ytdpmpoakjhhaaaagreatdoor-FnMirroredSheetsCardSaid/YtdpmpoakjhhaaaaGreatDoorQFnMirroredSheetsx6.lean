-- Written by own_print.py of this session's repo over the kit's print (its output, turned at some places).
import Derived.Test.YtdpmpoakjhhaaaaGreatDoorQFnMirroredSheetsx0
import Derived.Test.YtdpmpoakjhhaaaaGreatDoorQFnMirroredSheetsx5
namespace Go.Proofs.YtdpmpoakjhhaaaaGreatDoor.QFnMirroredSheets
open Go.RowKit Go.Proofs.YtdpmpoakjhhaaaaGreatDoorW.PrintWords Go.Proofs.YtdpmpoakjhhaaaaGreatDoorW.PrintLast Go.Proofs.YtdpmpoakjhhaaaaGreatDoorW.PrintMore
attribute [local go_sem] max2_int min2_int max_two min_two max_three min_three max_four min_four   -- for this text's walks alone
set_option linter.unusedVariables false
set_option linter.unusedSimpArgs false

/-! ### impl_halved -/
def hv_pos (H n : Nat) (second opposite : Bool) : Nat := (if opposite = true then H - 1 - n else n) + (if second = true then H else 0)
def hv_at (l : List (List (List S41))) (across : Bool) (H W x y : Nat) (second opposite : Bool) : Option (List S41) :=
  if (if across = true then hv_pos H y second opposite else y) < l.length then (if (if across = true then x else hv_pos W x second opposite) < (l.getD (if across = true then hv_pos H y second opposite else y) []).length then some ((l.getD (if across = true then hv_pos H y second opposite else y) []).getD (if across = true then x else hv_pos W x second opposite) []) else none) else none
theorem hv_L3 {w : World} {A : Option Addr} {n : Nat} {xs : List (List S41)} (h : Kd.C (Kd.slice 41 k41) w A n xs) (i : Nat) (h1 : i < n) : ∃ ad A0 c0, A = some ad ∧ w.cell? (ad.add i) = some (.slice A0 (xs.getD i []).length c0) ∧ (xs.getD i []).length ≤ c0 ∧ k41.C w A0 (xs.getD i []).length (xs.getD i []) := by
  obtain ⟨ad, c, e, _, hK, hc0⟩ := Kd.C_get h ([] : List S41) (i : Int) (by omega) (by omega)
  have hc : ∀ j u, c[j]? = some u → w.cell? (ad.add (i * 1 + j)) = some u := hc0
  obtain ⟨A0, c0, rfl, l0, g0⟩ := hK
  exact ⟨ad, A0, c0, e, by have hq := hc 0 _ rfl; rw [Nat.mul_one, Nat.add_zero] at hq; exact hq, l0, g0⟩
theorem hv_L4 {w : World} {A : Option Addr} {n : Nat} {xs : List (List (List S41))} (h : Kd.C (Kd.slice 37 (Kd.slice 41 k41)) w A n xs) (i : Nat) (h1 : i < n) : ∃ ad A0 c0, A = some ad ∧ w.cell? (ad.add i) = some (.slice A0 (xs.getD i []).length c0) ∧ (xs.getD i []).length ≤ c0 ∧ (Kd.slice 41 k41).C w A0 (xs.getD i []).length (xs.getD i []) := by
  obtain ⟨ad, c, e, _, hK, hc0⟩ := Kd.C_get h ([] : List (List S41)) (i : Int) (by omega) (by omega)
  have hc : ∀ j u, c[j]? = some u → w.cell? (ad.add (i * 1 + j)) = some u := hc0
  obtain ⟨A0, c0, rfl, l0, g0⟩ := hK
  exact ⟨ad, A0, c0, e, by have hq := hc 0 _ rfl; rw [Nat.mul_one, Nat.add_zero] at hq; exact hq, l0, g0⟩
/-- The four variables that the closure sees. -/
def HVInv (bA bH bW bR : Nat) (across : Bool) (H W : Nat) (A : Option Addr) (c : Nat) (l : List (List (List S41))) (w : World) : Prop :=
  w.cell? ⟨bA, 0, none⟩ = some (.bool across) ∧ w.cell? ⟨bH, 0, none⟩ = some (.int .i64 (H : Int)) ∧ w.cell? ⟨bW, 0, none⟩ = some (.int .i64 (W : Int)) ∧ w.cell? ⟨bR, 0, none⟩ = some (.slice A l.length c) ∧ Kd.C (Kd.slice 37 (Kd.slice 41 k41)) w A l.length l ∧ l.length ≤ c
def HVRes (w : World) (r : List S41) (e : Ending) (w' : World) : Prop := (∃ A0 c0, e = .returned (.slice A0 r.length c0) ∧ r.length ≤ c0 ∧ k41.C w A0 r.length r) ∧ w' = w
set_option maxHeartbeats 4000000 in
set_option maxRecDepth 100000 in
theorem hv_cl (bA bH bW bR : Nat) (across : Bool) (H W : Nat) (A : Option Addr) (c : Nat) (l : List (List (List S41))) (x y : Nat) (second opposite : Bool) (r : List S41) (w : World) (hH : H ≤ 1000) (hW : W ≤ 1000) (hx : x < W) (hy : y < H) (hI : HVInv bA bH bW bR across H W A c l w) (h : hv_at l across H W x y second opposite = some r) :
    Calls Tryz.prog 69 #[.int .i64 (x : Int), .int .i64 (y : Int), .bool second, .bool opposite, .pointer (some ⟨bA, 0, none⟩), .pointer (some ⟨bH, 0, none⟩), .pointer (some ⟨bW, 0, none⟩), .pointer (some ⟨bR, 0, none⟩)] w (HVRes w r) := by
  obtain ⟨h1, h2, h3, h4, h5, h6⟩ := hI
  unfold hv_at at h
  obtain ⟨Y, hY⟩ : ∃ Y : Nat, (if across = true then hv_pos H y second opposite else y) = Y := ⟨_, rfl⟩
  obtain ⟨X, hX⟩ : ∃ X : Nat, (if across = true then x else hv_pos W x second opposite) = X := ⟨_, rfl⟩
  rw [hY, hX] at h
  by_cases c1 : Y < l.length
  · rw [if_pos c1] at h
    by_cases c2 : X < (l.getD Y []).length
    · rw [if_pos c2] at h
      injection h with h
      obtain ⟨ad, A1, k1, rfl, hc1, hl1, hi1⟩ := hv_L4 h5 Y c1
      obtain ⟨ad2, A2, k2, rfl, hc2, hl2, hi2⟩ := hv_L3 hi1 X c2
      rw [h] at hc2 hl2 hi2
      clear h
      have HL := Aside0.mk hl2
      have HI := Aside0.mk hi2
      obtain ⟨n1, hn1⟩ : ∃ n1 : Nat, l.length = n1 := ⟨_, rfl⟩
      obtain ⟨n2, hn2⟩ : ∃ n2 : Nat, (l.getD Y []).length = n2 := ⟨_, rfl⟩
      obtain ⟨n3, hn3⟩ : ∃ n3 : Nat, r.length = n3 := ⟨_, rfl⟩
      rw [hn1] at h4 c1
      rw [hn2] at hc1 c2
      rw [hn3] at hc2
      have d1 : decide (0 ≤ (Y : Int)) = true := decide_eq_true (by omega)
      have d2 : decide ((Y : Int) < (n1 : Int)) = true := decide_eq_true (by omega)
      have d2n : decide (Y < n1) = true := decide_eq_true c1
      have d3 : decide (0 ≤ (X : Int)) = true := decide_eq_true (by omega)
      have d4 : decide ((X : Int) < (n2 : Int)) = true := decide_eq_true (by omega)
      have d4n : decide (X < n2) = true := decide_eq_true c2
      unfold hv_pos at hY hX
      have g1 := eq_true c1
      have g2 := eq_true c2
      have g3 := eq_true (show (Y : Int) < (n1 : Int) by omega)
      have g4 := eq_true (show (X : Int) < (n2 : Int) by omega)
      have HN := Aside0.mk hn3
      clear hl1 hi1 hl2 hi2 h5 hn1 hn2 hn3 c1 c2 h6
      obtain ⟨M, hM⟩ : ∃ M : Nat, (if across = true then H else W) = M := ⟨_, rfl⟩
      obtain ⟨p, hp⟩ : ∃ p : Nat, (if across = true then y else x) = p := ⟨_, rfl⟩
      obtain ⟨q, hq⟩ : ∃ q : Nat, (if opposite = true then M - 1 - p else p) = q := ⟨_, rfl⟩
      have hpM : p < M ∧ M ≤ 1000 := by rw [← hp, ← hM]; cases across <;> simp <;> omega
      obtain ⟨M1, hM1⟩ : ∃ M1 : Nat, M = M1 + 1 := ⟨M - 1, by omega⟩
      have hY' : (if across = true then (if second = true then q + M else q) else y) = Y := by rw [← hY, ← hq, ← hp, ← hM]; cases across <;> cases second <;> cases opposite <;> simp
      have hX' : (if across = true then x else (if second = true then q + M else q)) = X := by rw [← hX, ← hq, ← hp, ← hM]; cases across <;> cases second <;> cases opposite <;> simp
      have e1 : wrap64 ((M : Int) - 1) = (M1 : Int) := by unfold wrap64; omega
      have e2 : opposite = true → wrap64 ((M1 : Int) - (p : Int)) = (q : Int) := by intro ho; rw [if_pos ho] at hq; unfold wrap64; omega
      have e3 : wrap64 ((q : Int) + (M : Int)) = ((q + M : Nat) : Int) := by have : q ≤ 1000 := by (rw [← hq]; split <;> omega)
                                                                             unfold wrap64; omega
      have f1 : IntKind.i64.wrap ((M : Int) - 1) = (M1 : Int) := (i64_w _).trans e1
      have f2 : opposite = true → IntKind.i64.wrap ((M1 : Int) - (p : Int)) = (q : Int) := fun ho => (i64_w _).trans (e2 ho)
      have f3 : IntKind.i64.wrap ((q : Int) + (M : Int)) = ((q + M : Nat) : Int) := (i64_w _).trans e3
      clear hpM hM1 hH hW hx hy hY hX
      have HI2 := HI
      cases across
      · skip
        simp only [if_false, Bool.false_eq_true] at hM hp hY' hX'
        subst hM hp
        subst hY'
        cases opposite
        · skip
          clear e2 f2 e1 f1
          simp only [if_false, Bool.false_eq_true] at hq
          subst hq
          cases second
          · skip
            simp only [if_false, Bool.false_eq_true] at hX'
            subst hX'
            clear e3 f3
            go_enter Tryz.func69, Tryz.ntmps69
            go_wp2
            go_ret
            exact ⟨⟨_, _, by rw [HN.out]; rfl, HL.out, HI.out⟩, rfl⟩
          · skip
            simp only [if_true] at hX'
            rw [hX'] at e3 f3
            clear hX'
            go_enter Tryz.func69, Tryz.ntmps69
            go_wp2
            go_ret
            exact ⟨⟨_, _, by rw [HN.out]; rfl, HL.out, HI.out⟩, rfl⟩
        · skip
          have e2 := e2 rfl
          have f2 := f2 rfl
          clear hq
          cases second
          · skip
            simp only [if_false, Bool.false_eq_true] at hX'
            subst hX'
            clear e3 f3
            go_enter Tryz.func69, Tryz.ntmps69
            go_wp2
            go_ret
            exact ⟨⟨_, _, by rw [HN.out]; rfl, HL.out, HI.out⟩, rfl⟩
          · skip
            simp only [if_true] at hX'
            rw [hX'] at e3 f3
            clear hX'
            go_enter Tryz.func69, Tryz.ntmps69
            go_wp2
            go_ret
            exact ⟨⟨_, _, by rw [HN.out]; rfl, HL.out, HI.out⟩, rfl⟩
      · skip
        simp only [if_true] at hM hp hY' hX'
        subst hM hp
        subst hX'
        cases opposite
        · skip
          clear e2 f2 e1 f1
          simp only [if_false, Bool.false_eq_true] at hq
          subst hq
          cases second
          · skip
            simp only [if_false, Bool.false_eq_true] at hY'
            subst hY'
            clear e3 f3
            go_enter Tryz.func69, Tryz.ntmps69
            go_wp2
            go_ret
            exact ⟨⟨_, _, by rw [HN.out]; rfl, HL.out, HI.out⟩, rfl⟩
          · skip
            simp only [if_true] at hY'
            rw [hY'] at e3 f3
            clear hY'
            go_enter Tryz.func69, Tryz.ntmps69
            go_wp2
            go_ret
            exact ⟨⟨_, _, by rw [HN.out]; rfl, HL.out, HI.out⟩, rfl⟩
        · skip
          have e2 := e2 rfl
          have f2 := f2 rfl
          clear hq
          cases second
          · skip
            simp only [if_false, Bool.false_eq_true] at hY'
            subst hY'
            clear e3 f3
            go_enter Tryz.func69, Tryz.ntmps69
            go_wp2
            go_ret
            exact ⟨⟨_, _, by rw [HN.out]; rfl, HL.out, HI.out⟩, rfl⟩
          · skip
            simp only [if_true] at hY'
            rw [hY'] at e3 f3
            clear hY'
            go_enter Tryz.func69, Tryz.ntmps69
            go_wp2
            go_ret
            exact ⟨⟨_, _, by rw [HN.out]; rfl, HL.out, HI.out⟩, rfl⟩
    · rw [if_neg c2] at h; cases h
  · rw [if_neg c1] at h; cases h
def hvH (a : Bool) (n : Nat) : Nat := if a = true then n / 2 else n
def hvW (a : Bool) (n : Nat) : Nat := if a = true then n else n / 2
def hv_cell (k : Nat) (l : List (List (List S41))) (a1 a2 : Bool) (H W y x : Nat) : Option (List S41) := (hv_at l a1 H W x y (!a2) true).bind fun a => (impl_flipped.f a a1).bind fun b => (hv_at l a1 H W x y a2 false).bind fun c => impl_Leaf_70.f k [b, c]
def hv_row (cell : Nat → Option (List S41)) : Nat → Nat → List (List S41) → Option (List (List S41))
  | 0, _, acc => some acc
  | n + 1, x, acc => (cell x).bind fun c => hv_row cell n (x + 1) (acc ++ [c])
def hv_rows (row : Nat → Option (List (List S41))) : Nat → Nat → List (List (List S41)) → Option (List (List (List S41)))
  | 0, _, acc => some acc
  | n + 1, y, acc => (row y).bind fun c => hv_rows row n (y + 1) (acc ++ [c])
def impl_halved.f (k : Nat) (l0 : List (List (List S41))) (a1 a2 : Bool) : Option (List (List (List S41))) := if 0 < l0.length ∧ l0.length ≤ 1000 ∧ (l0.getD 0 []).length ≤ 1000 then hv_rows (fun y => hv_row (fun x => hv_cell k l0 a1 a2 (hvH a1 l0.length) (hvW a1 (l0.getD 0 []).length) y x) (hvW a1 (l0.getD 0 []).length) 0 []) (hvH a1 l0.length) 0 [] else none
theorem hv_row_mono {c c' : Nat → Option (List S41)} (h : ∀ x, LeO (c x) (c' x)) : ∀ n x acc, LeO (hv_row c n x acc) (hv_row c' n x acc)
  | 0, _, _ => LeO.refl _
  | n + 1, x, acc => LeO.bind (h x) (fun _ => hv_row_mono h n _ _)
theorem hv_rows_mono {c c' : Nat → Option (List (List S41))} (h : ∀ x, LeO (c x) (c' x)) : ∀ n x acc, LeO (hv_rows c n x acc) (hv_rows c' n x acc)
  | 0, _, _ => LeO.refl _
  | n + 1, x, acc => LeO.bind (h x) (fun _ => hv_rows_mono h n _ _)
theorem impl_halved.mono : ∀ a0 a1 a2 k, LeO (impl_halved.f k a0 a1 a2) (impl_halved.f (k + 1) a0 a1 a2) := by
  intro a0 a1 a2 k
  unfold impl_halved.f
  refine LeO.ite (hv_rows_mono (fun y => hv_row_mono (fun x => ?_) _ _ _) _ _ _) (LeO.refl _)
  unfold hv_cell
  exact LeO.bind (LeO.refl _) (fun _ => LeO.bind (LeO.refl _) (fun _ => LeO.bind (LeO.refl _) (fun _ => impl_Leaf_70.mono _ _)))
theorem HVInv.below {bA bH bW bR : Nat} {across : Bool} {H W : Nat} {A : Option Addr} {c : Nat} {l : List (List (List S41))} {w w' : World} (h : HVInv bA bH bW bR across H W A c l w) (hb : Below w.heap.size w w') : HVInv bA bH bW bR across H W A c l w' := by
  obtain ⟨h1, h2, h3, h4, h5, h6⟩ := h
  exact ⟨(hb.cell (World.block_lt_of_cell? _ _ h1)).trans h1, (hb.cell (World.block_lt_of_cell? _ _ h2)).trans h2, (hb.cell (World.block_lt_of_cell? _ _ h3)).trans h3, (hb.cell (World.block_lt_of_cell? _ _ h4)).trans h4, Kd.C_below h5 hb, h6⟩
theorem hv_pair {w : World} {A1 A2 : Option Addr} {c1 c2 : Nat} {b c : List S41} (h1 : b.length ≤ c1) (h2 : Kd.C k41 w A1 b.length b) (h3 : c.length ≤ c2) (h4 : Kd.C k41 w A2 c.length c) : Kd.C (Kd.slice 41 k41) (w.alloc (.cells #[.slice A1 b.length c1, .slice A2 c.length c2] 37)) (some ⟨w.heap.size, 0, none⟩) [b, c].length [b, c] := by
  have hb : Below w.heap.size w (w.alloc (.cells #[.slice A1 b.length c1, .slice A2 c.length c2] 37)) := below_alloc (Below.refl _ _) _
  have hk := heap_alloc_new w (.cells #[.slice A1 b.length c1, .slice A2 c.length c2] 37)
  refine ⟨rfl, by show 2 ≤ 9223372036854775807; decide, fun _ => ⟨_, rfl, fun j p hj => ?_⟩⟩
  have hj2 : j = 0 ∧ p = b ∨ j = 1 ∧ p = c := by
    rcases j with _ | _ | j
    · left; simpa using hj.symm
    · right; simpa using hj.symm
    · simp at hj
  rcases hj2 with ⟨rfl, rfl⟩ | ⟨rfl, rfl⟩
  · refine ⟨[.slice A1 p.length c1], rfl, ⟨A1, c1, rfl, h1, Kd.C_below h2 hb⟩, fun i u hu => ?_⟩
    obtain rfl : i = 0 := by rcases i with _ | i; rfl; simp at hu
    obtain rfl : Value.slice A1 p.length c1 = u := by simpa using hu
    exact (blk_cell hk 0).trans rfl
  · refine ⟨[.slice A2 p.length c2], rfl, ⟨A2, c2, rfl, h3, Kd.C_below h4 hb⟩, fun i u hu => ?_⟩
    obtain rfl : i = 0 := by rcases i with _ | i; rfl; simp at hu
    obtain rfl : Value.slice A2 p.length c2 = u := by simpa using hu
    exact (blk_cell hk 1).trans rfl
theorem hv_fst (w : World) (c1 c2 : Array Value) (t1 t2 : TypeId) : ((w.alloc (.cells c1 t1)).alloc (.cells c2 t2)).drew.heap[w.heap.size]? = some (.cells c1 t1 (0, 0)) := (Lib.alloc_old (w.alloc (.cells c1 t1)) (.cells c2 t2) w.heap.size (by simp)).trans (heap_alloc_new _ _)
theorem hv_top (w : World) (c1 c2 : Array Value) (t1 t2 : TypeId) : ((w.alloc (.cells c1 t1)).alloc (.cells c2 t2)).drew.heap[w.heap.size + 1]? = some (.cells c2 t2 (0, 0)) := by
  have := heap_alloc_new (w.alloc (.cells c1 t1)) (.cells c2 t2)
  rw [show (w.alloc (.cells c1 t1)).heap.size = w.heap.size + 1 by simp] at this
  exact this
theorem hv_two (w : World) (o1 o2 : Obj) : Below w.heap.size w ((w.alloc o1).alloc o2).drew := below_drew (below_alloc (below_alloc (Below.refl _ _) _) _)
theorem hv_call {P : Program} {ops : Array Oper} {Q : Exit → Act → World → Prop} {oi : Oper} {N : Option Tmp} {a : Act} {w : World} {K : Act → World → Prop} {f : FuncId} {fn : Func} {as1 : Array Operand} {ts : Array TypeId} {cap : Array Value} (t : Tmp) (hf : P.funcs[f]? = some fn) (hname : (fn.name == "runtime.NumGoroutine") = false) (hb : fn.body.isSome = true) (args as0 : Array Value)
    (hw : Region.wanted oi (yielded ops a.tmps) = true) (hN : oi.dst = N) (hop : oi.op = .call { callee := .value (.tmp t), args := as1, argTypes := ts }) (ht : a.eval (.tmp t) = .func (.func f) #[] cap) (has : as1.map a.eval = as0) (hargs : #[] ++ as0 ++ cap = args)
    (h : Calls P f args w fun e w' => ∃ v, e = .returned v ∧ K (a.put N v) w') : if Region.wanted oi (yielded ops a.tmps) = true then Oper.wp P oi a w K Q else K (a.put N undef) w := by
  refine call_ f args hw hN ?_ h
  have he := enters_ hf hname hb args w
  unfold execOp
  simp [hop, resolve, Deferred.ofValue, invoke, ht, has]
  simp only [Array.empty_append] at hargs
  rw [hargs]
  exact he

set_option maxHeartbeats 8000000 in
set_option maxRecDepth 100000 in
theorem impl_halved.calls (k : Nat) (A0 : Option Addr) (c0 : Nat) (l0 : List (List (List S41))) (a1 a2 : Bool) (r : List (List (List S41))) (w : World) (hr0 : Kd.C (Kd.slice 37 (Kd.slice 41 k41)) w A0 l0.length l0) (hc0 : l0.length ≤ c0) (h : impl_halved.f k l0 a1 a2 = some r) :
    Calls Tryz.prog 51 #[.slice A0 l0.length c0, .bool a1, .bool a2] w fun e w' => ∃ v0_ : Value, e = .returned (v0_) ∧ Kd.R (Kd.slice 37 (Kd.slice 41 k41)) 71 w' w.heap.size (fun _ => True) v0_ r ∧ Below w.heap.size w w' := by
  unfold impl_halved.f at h
  by_cases hp : 0 < l0.length ∧ l0.length ≤ 1000 ∧ (l0.getD 0 []).length ≤ 1000
  · rw [if_pos hp] at h
    obtain ⟨hp1, hp2, hp3⟩ := hp
    obtain ⟨ad, A1, c1, rfl, hx1, hl1, hi1⟩ := hv_L4 hr0 0 hp1
    have HF := Aside0.mk h
    have HR := Aside0.mk hr0
    have HC := Aside0.mk hc0
    obtain ⟨n, hn⟩ : ∃ n : Nat, l0.length = n := ⟨_, rfl⟩
    obtain ⟨m, hm⟩ : ∃ m : Nat, (l0.getD 0 []).length = m := ⟨_, rfl⟩
    rw [hm] at hp3 hx1 HF
    rw [hn] at hp1 hp2 HF ⊢
    have HN := Aside0.mk hn
    have HP := Aside0.mk (show 0 < n ∧ n ≤ 1000 ∧ m ≤ 1000 from ⟨hp1, hp2, hp3⟩)
    have hb2 := Aside0.mk (show Below w.heap.size w ((w.alloc (.cells #[.slice (some ad) n c0] 70)).alloc (.cells #[.bool a1] 4)) from below_alloc (below_alloc (Below.refl _ _) _) _)
    have hkR := Aside0.mk (show ((w.alloc (.cells #[.slice (some ad) n c0] 70)).alloc (.cells #[.bool a1] 4)).heap[w.heap.size]? = some (.cells #[.slice (some ad) n c0] 70 (0, 0)) from (Lib.alloc_old _ _ _ (by simp)).trans (heap_alloc_new _ _))
    have hkA := Aside0.mk (show ((w.alloc (.cells #[.slice (some ad) n c0] 70)).alloc (.cells #[.bool a1] 4)).heap[w.heap.size + 1]? = some (.cells #[.bool a1] 4 (0, 0)) from by
      have := heap_alloc_new (w.alloc (.cells #[.slice (some ad) n c0] 70)) (.cells #[.bool a1] 4)
      simpa using this)
    have hz2 := Aside0.mk (show ((w.alloc (.cells #[.slice (some ad) n c0] 70)).alloc (.cells #[.bool a1] 4)).heap.size = w.heap.size + 2 by simp)
    have g1 := eq_true hp1
    have g2 := eq_true (show (0 : Int) < (n : Int) by omega)
    have hmf : ∀ (fn : Fn) (first cap : Array Value) (w : World), (Instr.makeFunc fn first cap).run Tryz.prog w = .ok (.func fn first cap) w := fun _ _ _ _ => rfl
    clear hr0 hc0 hn hm hl1 hi1 hp1 hp2 hp3 h
    go_enter Tryz.func51, Tryz.ntmps51
    go_upto_region 1 with (fail)
    rw [show ad.add 0 = ad by simp [Addr.add]] at hx1
    have hx2 := (hb2.out.cell (World.block_lt_of_cell? _ _ hx1)).trans hx1
    obtain ⟨bR, hbR⟩ : ∃ bR : Nat, w.heap.size = bR := ⟨_, rfl⟩
    have HbR := Aside0.mk hbR
    rw [hbR] at hkR hkA hz2 ⊢
    clear hbR hx1
    generalize (w.alloc (.cells #[.slice (some ad) n c0] 70)).alloc (.cells #[.bool a1] 4) = w2 at hb2 hkR hkA hx2 hz2 ⊢
    have hcR : w2.cell? ⟨bR, 0, none⟩ = some (.slice (some ad) n c0) := (blk_cell hkR.out 0).trans rfl
    have hcA : w2.cell? ⟨bR + 1, 0, none⟩ = some (.bool a1) := (blk_cell hkA.out 0).trans rfl
    go_cut [7, 8] (fun v7 v8 wc => ∃ bH bW : Nat, v7 = .pointer (some ⟨bH, 0, none⟩) ∧ v8 = .pointer (some ⟨bW, 0, none⟩) ∧ Aside0 (wc.heap[bH]? = some (.cells #[.int .i64 (n : Int)] 3 (0, 0))) ∧ Aside0 (wc.heap[bW]? = some (.cells #[.int .i64 (m : Int)] 3 (0, 0))) ∧ Aside0 (bH ≠ bW ∧ bR + 1 < bH ∧ bR + 1 < bW) ∧ Aside0 (Below w2.heap.size w2 wc))
    case first =>
      go_region_held3 (fun w' => w'.cell? ⟨bR, 0, none⟩ = some (.slice (some ad) n c0) ∧ w'.cell? ad = some (.slice A1 m c1)) (go_keep) (fail)
      all_goals
        go_wp2_with fail
        go_meet
        first
          | exact ⟨w2.heap.size + 1, w2.heap.size, rfl, rfl, ⟨hv_top _ _ _ _ _⟩, ⟨hv_fst _ _ _ _ _⟩, ⟨by have := hz2.out; omega⟩, ⟨hv_two _ _ _⟩⟩
          | exact ⟨w2.heap.size, w2.heap.size + 1, rfl, rfl, ⟨hv_fst _ _ _ _ _⟩, ⟨hv_top _ _ _ _ _⟩, ⟨by have := hz2.out; omega⟩, ⟨hv_two _ _ _⟩⟩
    case rest =>
      obtain ⟨bH, bW, rfl, rfl, hkH, hkW, hne, hb3⟩ := hcut
      have hkR3 := Aside0.mk ((hb3.out.block _ (blk_lt hkR.out)).trans hkR.out)
      have hkA3 := Aside0.mk ((hb3.out.block _ (blk_lt hkA.out)).trans hkA.out)
      have hB3 := Aside0.mk (below_step hb2.out hb3.out)
      clear hb2 hb3 hkR hkA hcR hcA hx2 g1 g2
      have hcR : wc.cell? ⟨bR, 0, none⟩ = some (.slice (some ad) n c0) := (blk_cell hkR3.out 0).trans rfl
      have hcA : wc.cell? ⟨bR + 1, 0, none⟩ = some (.bool a1) := (blk_cell hkA3.out 0).trans rfl
      have hcH : wc.cell? ⟨bH, 0, none⟩ = some (.int .i64 (n : Int)) := (blk_cell hkH.out 0).trans rfl
      have hcW : wc.cell? ⟨bW, 0, none⟩ = some (.int .i64 (m : Int)) := (blk_cell hkW.out 0).trans rfl
      have hfH := blk_frozen hkH.out 0
      have hfW := blk_frozen hkW.out 0
      have e1 : wrap64 (Int.tdiv (n : Int) 2) = ((n / 2 : Nat) : Int) := by have := HP.out; rw [Int.tdiv_eq_ediv_of_nonneg (by omega)]; unfold wrap64; omega
      have e2 : wrap64 (Int.tdiv (m : Int) 2) = ((m / 2 : Nat) : Int) := by have := HP.out; rw [Int.tdiv_eq_ediv_of_nonneg (by omega)]; unfold wrap64; omega
      go_upto_if 20 with (fail)
      go_cut [] (fun wc => Aside0 (HVInv (bR + 1) bH bW bR a1 (hvH a1 n) (hvW a1 m) (some ad) c0 l0 wc) ∧ Aside0 (Below w.heap.size w wc))
      case first =>
        have e3 : wrap64 ((n : Int) / 2) = ((n / 2 : Nat) : Int) := by have := HP.out; unfold wrap64; omega
        have e4 : wrap64 ((m : Int) / 2) = ((m / 2 : Nat) : Int) := by have := HP.out; unfold wrap64; omega
        have E3 := Aside0.mk e3
        have E4 := Aside0.mk e4
        clear e3 e4
        cases a1
        · go_wp2_with fail
          go_meet
          have hB4 := Aside0.mk (below_set (j := 0) (v := .int .i64 (wrap64 ((m : Int) / 2))) hB3.out (g := bW) (by have := hne.out; have := HbR.out; omega))
          refine ⟨⟨(blk_cell (blk_far hkA3.out (by have := hne.out; simp only [ne_eq]; omega) _) 0).trans rfl, (blk_cell (blk_far hkH.out (by have := hne.out; simp only [ne_eq]; omega) _) 0).trans rfl, ?_, ?_, Kd.C_below HR.out hB4.out, HC.out⟩, hB4⟩
          · rw [E4.out]
            exact (blk_cell (blk_put hkW.out 0 _ rfl) 0).trans rfl
          · rw [HN.out]
            exact (blk_cell (blk_far hkR3.out (by have := hne.out; simp only [ne_eq]; omega) _) 0).trans rfl
        · go_wp2_with fail
          go_meet
          have hB4 := Aside0.mk (below_set (j := 0) (v := .int .i64 (wrap64 ((n : Int) / 2))) hB3.out (g := bH) (by have := hne.out; have := HbR.out; omega))
          refine ⟨⟨(blk_cell (blk_far hkA3.out (by have := hne.out; simp only [ne_eq]; omega) _) 0).trans rfl, ?_, (blk_cell (blk_far hkW.out (by have := hne.out; simp only [ne_eq]; omega) _) 0).trans rfl, ?_, Kd.C_below HR.out hB4.out, HC.out⟩, hB4⟩
          · rw [E3.out]
            exact (blk_cell (blk_put hkH.out 0 _ rfl) 0).trans rfl
          · rw [HN.out]
            exact (blk_cell (blk_far hkR3.out (by have := hne.out; simp only [ne_eq]; omega) _) 0).trans rfl
      case rest =>
        obtain ⟨HI, HB⟩ := hcut
        clear hcR hcA hcH hcW hfH hfW e1 e2 hkH hkW hne hkR3 hkA3 hB3 hz2
        have HHW := Aside0.mk (show hvH a1 n ≤ 1000 ∧ hvW a1 m ≤ 1000 from by have := HP.out; unfold hvH hvW; constructor <;> split <;> omega)
        clear HP
        obtain ⟨H, hH⟩ : ∃ H : Nat, hvH a1 n = H := ⟨_, rfl⟩
        obtain ⟨V, hV⟩ : ∃ V : Nat, hvW a1 m = V := ⟨_, rfl⟩
        rw [hH, hV] at HI HF HHW
        clear hH hV
        have HBR := Aside0.mk (Below.refl wc.heap.size wc)
        go_wp2_with ((with_reducible refine gate_dst (N := 26) rfl ?_); refine Kd.R_lit (Kd.slice 37 (Kd.slice 41 k41)) _ 71 ?hg (N := 26) ?hd (xs := ([] : List (List (List S41)))) (inner := []) (ok := fun _ => True) (okp := fun _ => True) ?hr ?hp (fun _ hk => hk) trivial (Below.refl _ _) (Nat.le_refl _) (by simp) ?_; (case hd => rfl); (case hg => rfl); (case hr => first | (go_simp; done) | (go_simp; rfl)); (case hp => exact (Reps.none _ _)); intro v138 w3 ho4 hb hg_ hnew_; have HO := Aside0.mk ho4; have HB1 := Aside0.mk hb; have HI1 := Aside0.mk (HI.out.below hb); have hcH : w3.cell? ⟨bH, 0, none⟩ = some (.int .i64 (H : Int)) := HI1.out.2.1; clear hg_ hnew_ ho4 hb)
        clear hcH
        obtain ⟨A30, c30, e30⟩ := Kd.R_slice HO.out
        go_loopg [10, 28] (H + 1) (fun kq v10 v28 w' => ∃ (y : Nat) (acc : List (List (List S41))), v28 = .int .i64 (y : Int) ∧ Aside0 (y + kq = H + 1 ∧ y ≤ H ∧ acc.length = y) ∧ Aside0 (hv_rows (fun y => hv_row (fun x => hv_cell k l0 a1 a2 H V y x) V 0 []) (H - y) y acc = some r) ∧ Aside0 (Kd.R (Kd.slice 37 (Kd.slice 41 k41)) 71 w' wc.heap.size (fun _ => True) v10 acc) ∧ Aside0 (Below wc.heap.size wc w'))
        case atStart => exact ⟨0, [], rfl, ⟨by omega, by omega, rfl⟩, HF, HO, HB1⟩
        case round =>
          clear HF HO HB1 HBR HI1 e30
          obtain ⟨y, acc, rfl, HY, HF, HO, HB1⟩ := hrel
          cases gk with
          | zero => exact absurd HY.out (fun h => by omega)
          | succ k1 =>
            by_cases hy : y = H
            · have d1 : decide ((y : Int) < (H : Int)) = false := decide_eq_false (by omega)
              have d2 : decide (y < H) = false := decide_eq_false (by omega)
              have HF2 := HF.out
              rw [show H - y = 0 by omega] at HF2
              unfold hv_rows at HF2
              injection HF2 with HF3
              subst HF3
              clear hy HY HF
              go_wp2
              go_ret
              exact ⟨_, rfl, Kd.R_lower HO.out (below_size HB.out), HB.out.trans (HB1.out.mono (below_size HB.out))⟩
            · have hyH : y < H := by have := HY.out; omega
              have HF2 := HF.out
              rw [show H - y = (H - (y + 1)) + 1 by omega] at HF2
              unfold hv_rows at HF2
              obtain ⟨row, hrow, hf3⟩ := Option.bind_eq_some_iff.1 HF2
              have HROW := Aside0.mk hrow
              have HF4 := Aside0.mk hf3
              have HYH := Aside0.mk hyH
              have d1 : decide ((y : Int) < (H : Int)) = true := decide_eq_true (by omega)
              have d2 : decide (y < H) = true := decide_eq_true hyH
              have e1 : wrap64 ((y : Int) + 1) = ((y + 1 : Nat) : Int) := by have := HHW.out; unfold wrap64; omega
              have f1 : IntKind.i64.wrap ((y : Int) + 1) = ((y + 1 : Nat) : Int) := (i64_w _).trans e1
              have HIr := Aside0.mk (HI.out.below HB1.out)
              clear hy hyH HF HF2 hrow hf3
              go_wp2_with ((with_reducible refine gate_dst (N := 31) rfl ?_); refine Kd.S_lit (Kd.slice 41 k41) _ 37 ?hg (N := 31) ?hd (xs := ([] : List (List S41))) (inner := []) (ok := fun _ => True) (okp := fun _ => True) ?hr ?hp (fun _ hk => hk) trivial (Below.refl _ _) (Nat.le_refl _) (by simp) ?_; (case hd => rfl); (case hg => rfl); (case hr => first | (go_simp; done) | (go_simp; rfl)); (case hp => exact (Reps.none _ _)); intro v142 w7 ho8 hb hg_ hnew_; have HO5 := Aside0.mk (Kd.R_elder' HO.out (Kd.S_base ho8) hb); have HS := Aside0.mk (Kd.S_lower ho8 (below_size HB1.out)); have HB2 := Aside0.mk (below_step HB1.out hb); have HI2 := Aside0.mk (HIr.out.below hb); have hcW : w7.cell? ⟨bW, 0, none⟩ = some (.int .i64 (V : Int)) := HI2.out.2.2.1; clear hg_ hnew_ ho8 hb)
              obtain ⟨A31, c31, e31⟩ := Kd.S_slice HS.out
              clear e31 A31 c31
              go_loopg [12, 33] (V + 1) (fun kq v12 v33 w' => ∃ (x : Nat) (ac2 : List (List S41)), v33 = .int .i64 (x : Int) ∧ Aside0 (x + kq = V + 1 ∧ x ≤ V ∧ ac2.length = x) ∧ Aside0 (hv_row (fun x => hv_cell k l0 a1 a2 H V y x) (V - x) x ac2 = some row) ∧ Aside0 (Kd.R (Kd.slice 37 (Kd.slice 41 k41)) 71 w' wc.heap.size (fun k_ => some k_ ≠ (v12 : Value).ownBlock) u10 acc) ∧ Aside0 (Kd.S (Kd.slice 41 k41) 37 w' wc.heap.size (fun _ => True) v12 ac2) ∧ Aside0 (Below wc.heap.size wc w'))
              case atStart => exact ⟨0, [], rfl, ⟨by omega, by omega, rfl⟩, ⟨HROW.out⟩, ⟨Kd.R_mono HO5.out (fun _ hk => hk.2)⟩, HS, HB2⟩
              case round =>
                clear HROW HO5 HS HB2 HI2 hcW HIr HO HB1
                obtain ⟨x, ac2, rfl, HX, HROW, HO, HS, HB1⟩ := hrel
                have HIr := Aside0.mk (HI.out.below HB1.out)
                cases gk with
                | zero => exact absurd HX.out (fun h => by omega)
                | succ k2 =>
                  by_cases hx : x = V
                  · have d3 : decide ((x : Int) < (V : Int)) = false := decide_eq_false (by omega)
                    have d4 : decide (x < V) = false := decide_eq_false (by omega)
                    have HR2 := HROW.out
                    rw [show V - x = 0 by omega] at HR2
                    unfold hv_row at HR2
                    injection HR2 with HR3
                    have HE := Aside0.mk HR3
                    have HLY := Aside0.mk (show acc.length ≤ 1000000 by have := HY.out; have := HHW.out; omega)
                    clear hx HX HROW HR3
                    obtain ⟨Ao, co, eo⟩ := Kd.S_slice HS.out
                    subst eo
                    go_wp2_with ((with_reducible refine gate_builtin (b := .append) (xs := #[.tmp 55, .tmp 57]) rfl ?_); at_builtin; refine Kd.R_append (Kd.slice 37 (Kd.slice 41 k41)) (w0 := wc) wc.heap.size rfl (.tmp 55) (.tmp 57) 70 71 (.slice none 0 0) 24 rfl Tryz.underlying70 info71 rfl (by decide) (by omega) u10 acc ac2 [.slice Ao ac2.length co] (fun _ => True) (fun k_ => ((fun _ => True)) k_ ∧ some k_ ≠ (u10 : Value).ownBlock) rfl rfl ?aP (fun _ hk => hk) ?aF ?aO ?aB ?aS ?aL ?_; (case aP => exact Kd.M_row (Kd.R_mono (Kd.R_apart' ((Kd.S_R HS.out)) (Kd.R_typed HO.out) (by decide)) (fun k_ hk => ⟨trivial, hk.2⟩))); (case aB => exact HB1.out); (case aF => exact (fun _ _ => trivial)); (case aO => exact Kd.R_mono HO.out (fun _ hk => trivial)); (case aS => exact below_size HB1.out); (case aL => have := HLY.out; omega); intro v160 w39 ho hb hg hat; have HO6 := Aside0.mk ho; have HB6 := Aside0.mk hb; clear ho hb hg hat)
                    go_roundg k1
                    case measure => omega
                    case rel => exact ⟨y + 1, acc ++ [row], (by first | rfl | (simp; done) | (simp [*]; done)), ⟨by have := HY.out; have := HYH.out; omega, by have := HYH.out; omega, by have := HY.out; rw [List.length_append, List.length_singleton]; omega⟩, HF4, ⟨by rw [← HE.out]; exact HO6.out⟩, HB6⟩
                  · have hxV : x < V := by have := HX.out; omega
                    have HR2 := HROW.out
                    rw [show V - x = (V - (x + 1)) + 1 by omega] at HR2
                    unfold hv_row at HR2
                    obtain ⟨cell, hcell, hrow3⟩ := Option.bind_eq_some_iff.1 HR2
                    unfold hv_cell at hcell
                    obtain ⟨ra, ha, hcell2⟩ := Option.bind_eq_some_iff.1 hcell
                    obtain ⟨rb, hb, hcell3⟩ := Option.bind_eq_some_iff.1 hcell2
                    obtain ⟨rc, hc, hcell4⟩ := Option.bind_eq_some_iff.1 hcell3
                    have HA1 := Aside0.mk ha
                    have HA2 := Aside0.mk hb
                    have HA3 := Aside0.mk hc
                    have HA4 := Aside0.mk hcell4
                    have HR4 := Aside0.mk hrow3
                    have HXV := Aside0.mk hxV
                    have HLX := Aside0.mk (show ac2.length ≤ 1000000 by have := HX.out; have := HHW.out; omega)
                    have d3 : decide ((x : Int) < (V : Int)) = true := decide_eq_true (by omega)
                    have d4 : decide (x < V) = true := decide_eq_true hxV
                    have e5 : wrap64 ((x : Int) + 1) = ((x + 1 : Nat) : Int) := by have := HHW.out; unfold wrap64; omega
                    have f5 : IntKind.i64.wrap ((x : Int) + 1) = ((x + 1 : Nat) : Int) := (i64_w _).trans e5
                    clear hx hxV HROW HR2 hcell hcell2 hcell3 hcell4 hrow3 ha hb hc
                    try go_wp2
                    refine start_ (n := 19) (S := fun w' => w'.cell? ⟨bR + 1, 0, none⟩ = some (.bool a1)) (ds := [14, 15, 16, 17]) #[false, false, false, false, false, false, false, false, false, false, false, false, false, false, false, false, false, false, false] (by kernel_rfl) rfl rfl ((below_drew1 (Below.refl _ _)).cell (World.block_lt_of_cell? _ _ HIr.out.1) |>.trans HIr.out.1) (fun hHeld => ?_)
                    have HI5 := Aside0.mk (HIr.out.below (below_drew1 (Below.refl _ _)))
                    have HO5 := Aside0.mk (Kd.R_drew HO.out)
                    have HS5 := Aside0.mk (Kd.S_drew HS.out)
                    have HB5 := Aside0.mk (below_drew1 HB1.out)
                    clear HIr HO HS HB1
                    generalize wr.drew = w20 at HI5 HO5 HS5 HB5 hHeld ⊢
                    refine pure_ (i := 0) (N := some 36) (v := ?_) (a' := ?_) #[true, false, false, false, false, false, false, false, false, false, false, false, false, false, false, false, false, false, false] rfl rfl (by kernel_rfl) (fun _ _ _ h => h) (Or.inl ⟨by rfl, ?_⟩) ?_ ?_
                    rotate_left
                    · intro w'
                      go_simp
                      with_reducible rfl
                    rotate_left
                    · simp only [Act.put, List.setIfInBounds_toArray, List.set_cons_zero, List.set_cons_succ, i64_w, i32_w]
                      rfl
                    refine pure_ (i := 1) (N := some 37) (v := ?_) (a' := ?_) #[true, true, false, false, false, false, false, false, false, false, false, false, false, false, false, false, false, false, false] rfl rfl (by kernel_rfl) (fun _ _ _ h => h) (Or.inl ⟨by rfl, ?_⟩) ?_ ?_
                    rotate_left
                    · intro w'
                      go_simp
                      with_reducible rfl
                    rotate_left
                    · simp only [Act.put, List.setIfInBounds_toArray, List.set_cons_zero, List.set_cons_succ, i64_w, i32_w]
                      rfl
                    refine pure_ (i := 2) (N := some 38) (v := ?_) (a' := ?_) #[true, true, true, false, false, false, false, false, false, false, false, false, false, false, false, false, false, false, false] rfl rfl (by kernel_rfl) (fun _ _ _ h => h) (Or.inl ⟨by rfl, ?_⟩) ?_ ?_
                    rotate_left
                    · intro w'
                      go_simp
                      with_reducible rfl
                    rotate_left
                    · simp only [Act.put, List.setIfInBounds_toArray, List.set_cons_zero, List.set_cons_succ, i64_w, i32_w]
                      rfl
                    refine pure_ (i := 3) (N := some 39) (v := ?_) (a' := ?_) #[true, true, true, true, false, false, false, false, false, false, false, false, false, false, false, false, false, false, false] rfl rfl (by kernel_rfl) (fun _ _ _ h => h) (Or.inl ⟨by rfl, ?_⟩) ?_ ?_
                    rotate_left
                    · intro w'
                      go_simp
                      with_reducible rfl
                    rotate_left
                    · simp only [Act.put, List.setIfInBounds_toArray, List.set_cons_zero, List.set_cons_succ, i64_w, i32_w]
                      rfl
                    refine pure_ (i := 4) (N := some 40) (v := ?_) (a' := ?_) #[true, true, true, true, true, false, false, false, false, false, false, false, false, false, false, false, false, false, false] rfl rfl (by kernel_rfl) (fun _ _ _ h => h) (Or.inl ⟨by rfl, ?_⟩) ?_ ?_
                    rotate_left
                    · intro w'
                      go_simp
                      with_reducible rfl
                    rotate_left
                    · simp only [Act.put, List.setIfInBounds_toArray, List.set_cons_zero, List.set_cons_succ, i64_w, i32_w]
                      rfl
                    refine pure_ (i := 5) (N := some 41) (v := ?_) (a' := ?_) #[true, true, true, true, true, true, false, false, false, false, false, false, false, false, false, false, false, false, false] rfl rfl (by kernel_rfl) (fun _ _ _ h => h) (Or.inl ⟨by rfl, ?_⟩) ?_ ?_
                    rotate_left
                    · intro w'
                      go_simp
                      with_reducible rfl
                    rotate_left
                    · simp only [Act.put, List.setIfInBounds_toArray, List.set_cons_zero, List.set_cons_succ, i64_w, i32_w]
                      rfl
                    refine pure_ (i := 9) (N := some 45) (v := ?_) (a' := ?_) #[true, true, true, true, true, true, false, false, false, true, false, false, false, false, false, false, false, false, false] rfl rfl (by kernel_rfl) (fun _ _ _ h => h) (Or.inl ⟨by rfl, ?_⟩) ?_ ?_
                    rotate_left
                    · intro w'
                      go_simp
                      with_reducible rfl
                    rotate_left
                    · simp only [Act.put, List.setIfInBounds_toArray, List.set_cons_zero, List.set_cons_succ, i64_w, i32_w]
                      rfl
                    refine pure_ (i := 10) (N := some 46) (v := ?_) (a' := ?_) #[true, true, true, true, true, true, false, false, false, true, true, false, false, false, false, false, false, false, false] rfl rfl (by kernel_rfl) (fun _ _ _ h => h) (Or.inl ⟨by rfl, ?_⟩) ?_ ?_
                    rotate_left
                    · intro w'
                      go_simp
                      with_reducible rfl
                    rotate_left
                    · simp only [Act.put, List.setIfInBounds_toArray, List.set_cons_zero, List.set_cons_succ, i64_w, i32_w]
                      rfl
                    refine pure_ (i := 11) (N := some 47) (v := ?_) (a' := ?_) #[true, true, true, true, true, true, false, false, false, true, true, true, false, false, false, false, false, false, false] rfl rfl (by kernel_rfl) (fun _ _ _ h => h) (Or.inl ⟨by rfl, ?_⟩) ?_ ?_
                    rotate_left
                    · intro w'
                      go_simp
                      with_reducible rfl
                    rotate_left
                    · simp only [Act.put, List.setIfInBounds_toArray, List.set_cons_zero, List.set_cons_succ, i64_w, i32_w]
                      rfl
                    refine pure_ (i := 12) (N := some 48) (v := ?_) (a' := ?_) #[true, true, true, true, true, true, false, false, false, true, true, true, true, false, false, false, false, false, false] rfl rfl (by kernel_rfl) (fun _ _ _ h => h) (Or.inl ⟨by rfl, ?_⟩) ?_ ?_
                    rotate_left
                    · intro w'
                      go_simp
                      with_reducible rfl
                    rotate_left
                    · simp only [Act.put, List.setIfInBounds_toArray, List.set_cons_zero, List.set_cons_succ, i64_w, i32_w]
                      rfl
                    refine take_ (i := 7) (N := some 43) (v := ?_) (a' := ?_) #[true, true, true, true, true, true, false, true, false, true, true, true, true, false, false, false, false, false, false] rfl rfl (by kernel_rfl) (fun _ _ _ h => h) (Or.inl ⟨by rfl, ?_⟩) hHeld ?_ ?_
                    rotate_left
                    · intro w' s0
                      go_simp
                      with_reducible rfl
                    rotate_left
                    · simp only [Act.put, List.setIfInBounds_toArray, List.set_cons_zero, List.set_cons_succ, i64_w, i32_w]
                      rfl
                    refine one_ (i := 6) (N := some 42) #[true, true, true, true, true, true, true, true, false, true, true, true, true, false, false, false, false, false, false] rfl rfl (by kernel_rfl) (by decide) (fun K hK => ?_)
                    refine hv_call 37 Tryz.func69 (by kernel_rfl) rfl #[.int .i64 (x : Int), .int .i64 (y : Int), .bool (!a2), .bool true, .pointer (some ⟨bR + 1, 0, none⟩), .pointer (some ⟨bH, 0, none⟩), .pointer (some ⟨bW, 0, none⟩), .pointer (some ⟨bR, 0, none⟩)] #[.int .i64 (x : Int), .int .i64 (y : Int), .bool (!a2), .bool true] (by rfl) rfl rfl (by rfl) (by (try simp only [List.map_toArray, List.map_cons, List.map_nil]); first | done | rfl) (by rfl) ?_
                    refine (hv_cl (bR + 1) bH bW bR a1 H V (some ad) c0 l0 x y (!a2) true ra _ HHW.out.1 HHW.out.2 HXV.out HYH.out HI5.out HA1.out).mono ?_
                    rintro e w_ ⟨⟨A42, c42, rfl, hl, hC⟩, rfl⟩
                    have HL42 := Aside0.mk hl
                    have HC42 := Aside0.mk hC
                    clear hl hC
                    refine ⟨_, rfl, ?_⟩
                    refine hK.out _ _ hHeld (fun hHeld => ?_)
                    clear hK K
                    refine norm_ (a' := ?_) ?_ ?_
                    rotate_left
                    · show Act.put _ (some 42) _ = _
                      simp only [Act.put, List.setIfInBounds_toArray, List.set_cons_zero, List.set_cons_succ, i64_w, i32_w]
                      rfl
                    refine one_ (i := 8) (N := some 44) #[true, true, true, true, true, true, true, true, true, true, true, true, true, false, false, false, false, false, false] rfl rfl (by kernel_rfl) (by decide) (fun K hK => ?_)
                    refine goes_ Tryz.func71 (by kernel_rfl) rfl #[.slice A42 ra.length c42, .bool a1] (by rfl) rfl rfl (by (try simp only [List.map_toArray, List.map_cons, List.map_nil]); first | done | rfl) ?_
                    with_reducible refine (impl_flipped.calls _ _ ra a1 rb _ HC42.out HL42.out HA2.out).mono ?_
                    rintro e w22 ⟨v44, rfl, ho0, hb⟩
                    have HS0_ := (hb.cell (World.block_lt_of_cell? _ _ hHeld)).trans hHeld
                    have HI7 := Aside0.mk (HI5.out.below hb)
                    have HO7 := Aside0.mk (Kd.R_below HO5.out hb)
                    have HS7 := Aside0.mk (Kd.S_below HS5.out hb)
                    have HB7 := Aside0.mk (below_step HB5.out hb)
                    have HV7 := Aside0.mk ho0
                    clear HI5 HO5 HS5 HB5 hb ho0 HC42 HL42
                    obtain ⟨A44, c44, e44⟩ := Kd.R_slice HV7.out
                    subst e44
                    refine ⟨_, rfl, ?_⟩
                    refine hK.out _ _ HS0_ (fun hHeld => ?_)
                    clear HS0_
                    clear hK K
                    refine norm_ (a' := ?_) ?_ ?_
                    rotate_left
                    · show Act.put _ (some 44) _ = _
                      simp only [Act.put, List.setIfInBounds_toArray, List.set_cons_zero, List.set_cons_succ, i64_w, i32_w]
                      rfl
                    refine one_ (i := 13) (N := some 49) #[true, true, true, true, true, true, true, true, true, true, true, true, true, true, false, false, false, false, false] rfl rfl (by kernel_rfl) (by decide) (fun K hK => ?_)
                    refine hv_call 45 Tryz.func69 (by kernel_rfl) rfl #[.int .i64 (x : Int), .int .i64 (y : Int), .bool a2, .bool false, .pointer (some ⟨bR + 1, 0, none⟩), .pointer (some ⟨bH, 0, none⟩), .pointer (some ⟨bW, 0, none⟩), .pointer (some ⟨bR, 0, none⟩)] #[.int .i64 (x : Int), .int .i64 (y : Int), .bool a2, .bool false] (by rfl) rfl rfl (by rfl) (by (try simp only [List.map_toArray, List.map_cons, List.map_nil]); first | done | rfl) (by rfl) ?_
                    refine (hv_cl (bR + 1) bH bW bR a1 H V (some ad) c0 l0 x y a2 false rc _ HHW.out.1 HHW.out.2 HXV.out HYH.out HI7.out HA3.out).mono ?_
                    rintro e w_ ⟨⟨A49, c49, rfl, hl, hC⟩, rfl⟩
                    have HL49 := Aside0.mk hl
                    have HC49 := Aside0.mk hC
                    clear hl hC
                    refine ⟨_, rfl, ?_⟩
                    refine hK.out _ _ hHeld (fun hHeld => ?_)
                    clear hK K
                    refine norm_ (a' := ?_) ?_ ?_
                    rotate_left
                    · show Act.put _ (some 49) _ = _
                      simp only [Act.put, List.setIfInBounds_toArray, List.set_cons_zero, List.set_cons_succ, i64_w, i32_w]
                      rfl
                    refine last_ (i := 14) (N := some 50) #[true, true, true, true, true, true, true, true, true, true, true, true, true, true, true, false, false, false, false] rfl rfl (by kernel_rfl) (by decide) (fun K hK => ?_)
                    refine value_ (w1 := ?_) (v := ?_) (by rfl) rfl ?_ ?_
                    rotate_left 2
                    · go_simp
                      constructor
                      · rfl
                      · rfl
                    refine hK.out _ _ ?_
                    clear hK K
                    refine norm_ (a' := ?_) ?_ ?_
                    rotate_left
                    · show Act.put _ (some 50) _ = _
                      simp only [Act.put, List.setIfInBounds_toArray, List.set_cons_zero, List.set_cons_succ, i64_w, i32_w]
                      rfl
                    refine last_ (i := 15) (N := some 51) #[true, true, true, true, true, true, true, true, true, true, true, true, true, true, true, true, false, false, false] rfl rfl (by kernel_rfl) (by decide) (fun K hK => ?_)
                    refine goes_ Tryz.func70 (by kernel_rfl) rfl #[.slice (some ⟨w_.heap.size, 0, none⟩) 2 2] (by rfl) rfl rfl (by (try simp only [List.map_toArray, List.map_cons, List.map_nil]); first | done | rfl) ?_
                    refine (impl_Leaf_70.calls k (some ⟨w_.heap.size, 0, none⟩) 2 [rb, rc] cell _ (hv_pair (Kd.R_reads' HV7.out).2.1 (Kd.R_reads' HV7.out).2.2 HL49.out HC49.out) (Nat.le_refl _) HA4.out).mono ?_
                    rintro e w24 ⟨v51, rfl, ho0, hb⟩
                    have HO8 := Aside0.mk (Kd.R_elder' (Kd.R_alloc HO7.out _) (Kd.R_base ho0) hb)
                    have HS8 := Aside0.mk (Kd.S_elder' (Kd.S_alloc HS7.out _) (Kd.R_base ho0) hb)
                    have HV8 := Aside0.mk (Kd.R_lower ho0 (below_size (below_alloc HB7.out _)))
                    have HB8 := Aside0.mk (below_step (below_alloc HB7.out _) hb)
                    clear HI7 HO7 HS7 HB7 HV7 hb ho0 HC49 HL49 hHeld
                    obtain ⟨A51, c51, e51⟩ := Kd.R_slice HV8.out
                    subst e51
                    refine ⟨_, rfl, ?_⟩
                    refine hK.out _ _ ?_
                    clear hK K
                    refine norm_ (a' := ?_) ?_ ?_
                    rotate_left
                    · show Act.put _ (some 51) _ = _
                      simp only [Act.put, List.setIfInBounds_toArray, List.set_cons_zero, List.set_cons_succ, i64_w, i32_w]
                      rfl
                    refine last_ (i := 16) (N := some 52) #[true, true, true, true, true, true, true, true, true, true, true, true, true, true, true, true, true, false, false] rfl rfl (by kernel_rfl) (by decide) (fun K hK => ?_)
                    refine value_ (w1 := ?_) (v := ?_) (by rfl) rfl ?_ ?_
                    rotate_left 2
                    · go_simp
                      constructor
                      · rfl
                      · rfl
                    refine hK.out _ _ ?_
                    clear hK K
                    refine norm_ (a' := ?_) ?_ ?_
                    rotate_left
                    · show Act.put _ (some 52) _ = _
                      simp only [Act.put, List.setIfInBounds_toArray, List.set_cons_zero, List.set_cons_succ, i64_w, i32_w]
                      rfl
                    refine last_ (i := 17) (N := some 53) #[true, true, true, true, true, true, true, true, true, true, true, true, true, true, true, true, true, true, false] rfl rfl (by kernel_rfl) (by decide) (fun K hK => ?_)
                    refine Kd.S_append_step (Kd.slice 41 k41) (w0 := wc) wc.heap.size (by rfl) (.tmp 36) (.tmp 52) 71 37 (.slice none 0 0) 24 rfl Tryz.underlying71 info37 rfl (by decide) (by omega) u12 ac2 cell [.slice A51 cell.length c51] (fun _ => True) (fun k_ => some k_ = (.slice A51 cell.length c51 : Value).ownBlock) rfl rfl ?aP (fun k_ hk_ => ((Kd.R_mono (ok' := fun k_ => ((fun _ => True)) k_ ∧ some k_ ≠ (u12 : Value).ownBlock) (Kd.R_apart' (HV8.out) (Kd.S_typed HS8.out) (by decide)) (fun k_ hk => ⟨trivial, hk.2⟩))).1 k_ hk_.symm) ?aF ?aO ?aB ?aS ?aL ?_
                    (case aP => exact Kd.M_row (Kd.R_mono (Kd.R_tight rfl (Kd.R_mono (ok' := fun k_ => ((fun _ => True)) k_ ∧ some k_ ≠ (u12 : Value).ownBlock) (Kd.R_apart' (HV8.out) (Kd.S_typed HS8.out) (by decide)) (fun k_ hk => ⟨trivial, hk.2⟩))) (fun _ h_ => h_)))
                    (case aB => exact HB8.out)
                    (case aF => exact (fun _ _ => trivial))
                    (case aO => exact Kd.S_mono HS8.out (fun k_ hk => ⟨trivial, fun e_ => hk.2 e_⟩))
                    (case aS => exact below_size HB8.out)
                    (case aL => have := HLX.out; omega)
                    intro v53 w25 ho hb hg hat
                    have HO9 := Aside0.mk (Kd.R_after (ok := (fun k_ => some k_ ≠ (.slice A51 cell.length c51 : Value).ownBlock)) (Kd.R_mono HO8.out (fun _ hk => ⟨hk.2, hk.1⟩)) hg hat)
                    have HS9 := Aside0.mk ho
                    have HB9 := Aside0.mk hb
                    clear HO8 HS8 HV8 HB8 ho hb hg hat
                    refine hK.out _ _ ?_
                    clear hK K
                    refine norm_ (a' := ?_) ?_ ?_
                    rotate_left
                    · show Act.put _ (some 53) _ = _
                      simp only [Act.put, List.setIfInBounds_toArray, List.set_cons_zero, List.set_cons_succ, i64_w, i32_w]
                      rfl
                    refine pure_ (i := 18) (N := some 12) (v := ?_) (a' := ?_) #[true, true, true, true, true, true, true, true, true, true, true, true, true, true, true, true, true, true, true] rfl rfl (by kernel_rfl) (fun _ _ _ h => h) (Or.inl ⟨by rfl, ?_⟩) ?_ ?_
                    rotate_left
                    · intro w'
                      go_simp
                      with_reducible rfl
                    rotate_left
                    · simp only [Act.put, List.setIfInBounds_toArray, List.set_cons_zero, List.set_cons_succ, i64_w, i32_w]
                      rfl
                    refine done_ (by kernel_rfl) ?_
                    try go_wp2
                    go_roundg k2
                    case measure => omega
                    case rel => exact ⟨x + 1, ac2 ++ [cell], (by first | rfl | (simp; done) | (simp [*]; done)), ⟨by have := HX.out; have := HXV.out; omega, by have := HXV.out; omega, by have := HX.out; rw [List.length_append, List.length_singleton]; omega⟩, HR4, ⟨Kd.R_mono HO9.out (fun _ hk => hk.2)⟩, HS9, HB9⟩
  · rw [if_neg hp] at h; cases h

end Go.Proofs.YtdpmpoakjhhaaaaGreatDoor.QFnMirroredSheets
