-- Written by own_print.py of this session's repo over the kit's print (its output, turned at some places).
import Derived.Test.YtkpidjmhdagkfaaGreatDoorQFnImposedx0
import Derived.Test.YtkpidjmhdagkfaaGreatDoorQFnImposedx1
namespace Go.Proofs.YtkpidjmhdagkfaaGreatDoor.QFnImposed
open Go.RowKit Go.Proofs.YtkpidjmhdagkfaaGreatDoorW.PrintWords Go.Proofs.YtkpidjmhdagkfaaGreatDoorW.PrintLast Go.Proofs.YtkpidjmhdagkfaaGreatDoorW.PrintMore
attribute [local go_sem] fU fT gP gQ fw fA fQ fV
set_option maxHeartbeats 8000000
set_option maxRecDepth 100000
set_option linter.unusedVariables false
set_option linter.unusedSimpArgs false
def jL (H n : Nat) (second opposite : Bool) : Nat := (if opposite = true then H - 1 - n else n) + (if second = true then H else 0)
def sK (l : List (List (List S64))) (across : Bool) (H W x y : Nat) (second opposite : Bool) : Option (List S64) :=
 if (if across = true then jL H y second opposite else y) < l.length then (if (if across = true then x else jL W x second opposite) < (l.getD (if across = true then jL H y second opposite else y) []).length then some ((l.getD (if across = true then jL H y second opposite else y) []).getD (if across = true then x else jL W x second opposite) []) else none) else none
theorem BF {w : World} {A : Option Addr} {n : Nat} {xs : List (List S64)} (h : Kd.C (Kd.slice 64 k64) w A n xs) (i : Nat) (h1 : i < n) : ∃ ad A0 c0, A = some ad ∧ w.cell? (ad.add i) = some (.slice A0 (xs.getD i []).length c0) ∧ (xs.getD i []).length ≤ c0 ∧ k64.C w A0 (xs.getD i []).length (xs.getD i []) := by
 obtain ⟨ad, c, e, _, hK, hc0⟩ := Kd.sG h ([] : List S64) (i : Int) (by omega) (by omega)
 have hc : ∀ j u, c[j]? = some u → w.cell? (ad.add (i * 1 + j)) = some u := hc0
 obtain ⟨A0, c0, rfl, l0, g0⟩ := hK
 exact ⟨ad, A0, c0, e, by have hq := hc 0 _ rfl; rw [Nat.mul_one, Nat.add_zero] at hq; exact hq, l0, g0⟩
theorem Ac {w : World} {A : Option Addr} {n : Nat} {xs : List (List (List S64))} (h : Kd.C (Kd.slice 61 (Kd.slice 64 k64)) w A n xs) (i : Nat) (h1 : i < n) : ∃ ad A0 c0, A = some ad ∧ w.cell? (ad.add i) = some (.slice A0 (xs.getD i []).length c0) ∧ (xs.getD i []).length ≤ c0 ∧ (Kd.slice 64 k64).C w A0 (xs.getD i []).length (xs.getD i []) := by
 obtain ⟨ad, c, e, _, hK, hc0⟩ := Kd.sG h ([] : List (List S64)) (i : Int) (by omega) (by omega)
 have hc : ∀ j u, c[j]? = some u → w.cell? (ad.add (i * 1 + j)) = some u := hc0
 obtain ⟨A0, c0, rfl, l0, g0⟩ := hK
 exact ⟨ad, A0, c0, e, by have hq := hc 0 _ rfl; rw [Nat.mul_one, Nat.add_zero] at hq; exact hq, l0, g0⟩
def uK (bA bH bW bR : Nat) (across : Bool) (H W : Nat) (A : Option Addr) (c : Nat) (l : List (List (List S64))) (w : World) : Prop :=
 w.cell? ⟨bA, 0, none⟩ = some (.bool across) ∧ w.cell? ⟨bH, 0, none⟩ = some (.int .i64 (H : Int)) ∧ w.cell? ⟨bW, 0, none⟩ = some (.int .i64 (W : Int)) ∧ w.cell? ⟨bR, 0, none⟩ = some (.slice A l.length c) ∧ Kd.C (Kd.slice 61 (Kd.slice 64 k64)) w A l.length l ∧ l.length ≤ c
def BV (w : World) (r : List S64) (e : Ending) (w' : World) : Prop := (∃ A0 c0, e = .returned (.slice A0 r.length c0) ∧ r.length ≤ c0 ∧ k64.C w A0 r.length r) ∧ w' = w
theorem Ah (bA bH bW bR : Nat) (across : Bool) (H W : Nat) (A : Option Addr) (c : Nat) (l : List (List (List S64))) (x y : Nat) (second opposite : Bool) (r : List S64) (w : World) (hH : H ≤ 1000) (hW : W ≤ 1000) (hx : x < W) (hy : y < H) (hI : uK bA bH bW bR across H W A c l w) (h : sK l across H W x y second opposite = some r) :
  Calls Tryz.prog 94 #[.int .i64 (x : Int), .int .i64 (y : Int), .bool second, .bool opposite, .pointer (some ⟨bA, 0, none⟩), .pointer (some ⟨bH, 0, none⟩), .pointer (some ⟨bW, 0, none⟩), .pointer (some ⟨bR, 0, none⟩)] w (BV w r) := by
 obtain ⟨h1, h2, h3, h4, h5, h6⟩ := hI
 unfold sK at h
 obtain ⟨Y, hY⟩ : ∃ Y : Nat, (if across = true then jL H y second opposite else y) = Y := ⟨_, rfl⟩
 obtain ⟨X, hX⟩ : ∃ X : Nat, (if across = true then x else jL W x second opposite) = X := ⟨_, rfl⟩
 rw [hY, hX] at h
 by_cases c1 : Y < l.length
 ·rw [if_pos c1] at h
  by_cases c2 : X < (l.getD Y []).length
  ·rw [if_pos c2] at h
   injection h with h
   obtain ⟨ad, A1, k1, rfl, hc1, hl1, hi1⟩ := Ac h5 Y c1
   obtain ⟨A3, A2, k2, rfl, hc2, hl2, hi2⟩ := BF hi1 X c2
   rw [h] at hc2 hl2 hi2
   clear h
   have HL := a_ hl2
   have HI := a_ hi2
   obtain ⟨n1, hn1⟩ : ∃ n1 : Nat, l.length = n1 := ⟨_, rfl⟩
   obtain ⟨n2, hn2⟩ : ∃ n2 : Nat, (l.getD Y []).length = n2 := ⟨_, rfl⟩
   obtain ⟨n3, hn3⟩ : ∃ n3 : Nat, r.length = n3 := ⟨_, rfl⟩
   rw [hn1] at h4 c1
   rw [hn2] at hc1 c2
   rw [hn3] at hc2
   have d1 : decide (0 ≤ (Y : Int)) = true := decide_eq_true (by omega)
   have d2 : decide ((Y : Int) < (n1 : Int)) = true := decide_eq_true (by omega)
   have d2n : decide (Y < n1) = true := decide_eq_true c1
   have d3 : decide (0 ≤ (X : Int)) = true := decide_eq_true (by omega)
   have d4 : decide ((X : Int) < (n2 : Int)) = true := decide_eq_true (by omega)
   have d4n : decide (X < n2) = true := decide_eq_true c2
   unfold jL at hY hX
   have g1 := eq_true c1
   have g2 := eq_true c2
   have g3 := eq_true (show (Y : Int) < (n1 : Int) by omega)
   have g4 := eq_true (show (X : Int) < (n2 : Int) by omega)
   have HN := a_ hn3
   clear hl1 hi1 hl2 hi2 h5 hn1 hn2 hn3 c1 c2 h6
   obtain ⟨M, hM⟩ : ∃ M : Nat, (if across = true then H else W) = M := ⟨_, rfl⟩
   obtain ⟨p, hp⟩ : ∃ p : Nat, (if across = true then y else x) = p := ⟨_, rfl⟩
   obtain ⟨q, hq⟩ : ∃ q : Nat, (if opposite = true then M - 1 - p else p) = q := ⟨_, rfl⟩
   have hpM : p < M ∧ M ≤ 1000 := by rw [← hp, ← hM]; cases across <;> simp <;> omega
   obtain ⟨M1, hM1⟩ : ∃ M1 : Nat, M = M1 + 1 := ⟨M - 1, by omega⟩
   have hY' : (if across = true then (if second = true then q + M else q) else y) = Y := by rw [← hY, ← hq, ← hp, ← hM]; cases across <;> cases second <;> cases opposite <;> simp
   have hX' : (if across = true then x else (if second = true then q + M else q)) = X := by rw [← hX, ← hq, ← hp, ← hM]; cases across <;> cases second <;> cases opposite <;> simp
   have e1 : wrap64 ((M : Int) - 1) = (M1 : Int) := by unfold wrap64; omega
   have e2 : opposite = true → wrap64 ((M1 : Int) - (p : Int)) = (q : Int) := by intro ho; rw [if_pos ho] at hq; unfold wrap64; omega
   have e3 : wrap64 ((q : Int) + (M : Int)) = ((q + M : Nat) : Int) := by have : q ≤ 1000 := by (rw [← hq]; split <;> omega)
                                                                          unfold wrap64; omega
   have f1 : IntKind.i64.wrap ((M : Int) - 1) = (M1 : Int) := (eX _).trans e1
   have f2 : opposite = true → IntKind.i64.wrap ((M1 : Int) - (p : Int)) = (q : Int) := fun ho => (eX _).trans (e2 ho)
   have f3 : IntKind.i64.wrap ((q : Int) + (M : Int)) = ((q + M : Nat) : Int) := (eX _).trans e3
   clear hpM hM1 hH hW hx hy hY hX
   have HI2 := HI
   cases across
   ·skip
    simp only [if_false, Bool.false_eq_true] at hM hp hY' hX'
    subst hM hp
    subst hY'
    cases opposite
    ·skip
     clear e2 f2 e1 f1
     simp only [if_false, Bool.false_eq_true] at hq
     subst hq
     cases second
     ·skip
      simp only [if_false, Bool.false_eq_true] at hX'
      subst hX'
      clear e3 f3
      go_enter Tryz.func94, Tryz.ntmps94
      go_wp2
      go_ret
      exact ⟨⟨_, _, by rw [HN.out]; rfl, HL.out, HI.out⟩, rfl⟩
     ·skip
      simp only [if_true] at hX'
      rw [hX'] at e3 f3
      clear hX'
      go_enter Tryz.func94, Tryz.ntmps94
      go_wp2
      go_ret
      exact ⟨⟨_, _, by rw [HN.out]; rfl, HL.out, HI.out⟩, rfl⟩
    ·skip
     have e2 := e2 rfl
     have f2 := f2 rfl
     clear hq
     cases second
     ·skip
      simp only [if_false, Bool.false_eq_true] at hX'
      subst hX'
      clear e3 f3
      go_enter Tryz.func94, Tryz.ntmps94
      go_wp2
      go_ret
      exact ⟨⟨_, _, by rw [HN.out]; rfl, HL.out, HI.out⟩, rfl⟩
     ·skip
      simp only [if_true] at hX'
      rw [hX'] at e3 f3
      clear hX'
      go_enter Tryz.func94, Tryz.ntmps94
      go_wp2
      go_ret
      exact ⟨⟨_, _, by rw [HN.out]; rfl, HL.out, HI.out⟩, rfl⟩
   ·skip
    simp only [if_true] at hM hp hY' hX'
    subst hM hp
    subst hX'
    cases opposite
    ·skip
     clear e2 f2 e1 f1
     simp only [if_false, Bool.false_eq_true] at hq
     subst hq
     cases second
     ·skip
      simp only [if_false, Bool.false_eq_true] at hY'
      subst hY'
      clear e3 f3
      go_enter Tryz.func94, Tryz.ntmps94
      go_wp2
      go_ret
      exact ⟨⟨_, _, by rw [HN.out]; rfl, HL.out, HI.out⟩, rfl⟩
     ·skip
      simp only [if_true] at hY'
      rw [hY'] at e3 f3
      clear hY'
      go_enter Tryz.func94, Tryz.ntmps94
      go_wp2
      go_ret
      exact ⟨⟨_, _, by rw [HN.out]; rfl, HL.out, HI.out⟩, rfl⟩
    ·skip
     have e2 := e2 rfl
     have f2 := f2 rfl
     clear hq
     cases second
     ·skip
      simp only [if_false, Bool.false_eq_true] at hY'
      subst hY'
      clear e3 f3
      go_enter Tryz.func94, Tryz.ntmps94
      go_wp2
      go_ret
      exact ⟨⟨_, _, by rw [HN.out]; rfl, HL.out, HI.out⟩, rfl⟩
     ·skip
      simp only [if_true] at hY'
      rw [hY'] at e3 f3
      clear hY'
      go_enter Tryz.func94, Tryz.ntmps94
      go_wp2
      go_ret
      exact ⟨⟨_, _, by rw [HN.out]; rfl, HL.out, HI.out⟩, rfl⟩
  ·rw [if_neg c2] at h; cases h
 ·rw [if_neg c1] at h; cases h
def hvH (a : Bool) (n : Nat) : Nat := if a = true then n / 2 else n
def hvW (a : Bool) (n : Nat) : Nat := if a = true then n else n / 2
def jM (k : Nat) (l : List (List (List S64))) (a1 a2 : Bool) (H W y x : Nat) : Option (List S64) := (sK l a1 H W x y (!a2) true).bind fun a => (dS.f a a1).bind fun b => (sK l a1 H W x y a2 false).bind fun c => bK.f k [b, c]
def kP (cell : Nat → Option (List S64)) : Nat → Nat → List (List S64) → Option (List (List S64))
 | 0, _, acc => some acc
 | n + 1, x, acc => (cell x).bind fun c => kP cell n (x + 1) (acc ++ [c])
def kX (row : Nat → Option (List (List S64))) : Nat → Nat → List (List (List S64)) → Option (List (List (List S64)))
 | 0, _, acc => some acc
 | n + 1, y, acc => (row y).bind fun c => kX row n (y + 1) (acc ++ [c])
def eG.f (k : Nat) (l0 : List (List (List S64))) (a1 a2 : Bool) : Option (List (List (List S64))) := if 0 < l0.length ∧ l0.length ≤ 1000 ∧ (l0.getD 0 []).length ≤ 1000 then kX (fun y => kP (fun x => jM k l0 a1 a2 (hvH a1 l0.length) (hvW a1 (l0.getD 0 []).length) y x) (hvW a1 (l0.getD 0 []).length) 0 []) (hvH a1 l0.length) 0 [] else none
theorem pO {c c' : Nat → Option (List S64)} (h : ∀ x, LeO (c x) (c' x)) : ∀ n x acc, LeO (kP c n x acc) (kP c' n x acc)
 | 0, _, _ => LeO.refl _
 | n + 1, x, acc => LeO.bind (h x) (fun _ => pO h n _ _)
theorem nZ {c c' : Nat → Option (List (List S64))} (h : ∀ x, LeO (c x) (c' x)) : ∀ n x acc, LeO (kX c n x acc) (kX c' n x acc)
 | 0, _, _ => LeO.refl _
 | n + 1, x, acc => LeO.bind (h x) (fun _ => nZ h n _ _)
theorem eG.mono : ∀ a0 a1 a2 k, LeO (eG.f k a0 a1 a2) (eG.f (k + 1) a0 a1 a2) := by
 intro a0 a1 a2 k
 unfold eG.f
 refine LeO.ite (nZ (fun y => pO (fun x => ?_) _ _ _) _ _ _) (LeO.refl _)
 unfold jM
 exact LeO.bind (LeO.refl _) (fun _ => LeO.bind (LeO.refl _) (fun _ => LeO.bind (LeO.refl _) (fun _ => bK.mono _ _)))
theorem uK.below {bA bH bW bR : Nat} {across : Bool} {H W : Nat} {A : Option Addr} {c : Nat} {l : List (List (List S64))} {w w' : World} (h : uK bA bH bW bR across H W A c l w) (hb : Below w.heap.size w w') : uK bA bH bW bR across H W A c l w' := by
 obtain ⟨h1, h2, h3, h4, h5, h6⟩ := h
 exact ⟨(hb.cell (World.block_lt_of_cell? _ _ h1)).trans h1, (hb.cell (World.block_lt_of_cell? _ _ h2)).trans h2, (hb.cell (World.block_lt_of_cell? _ _ h3)).trans h3, (hb.cell (World.block_lt_of_cell? _ _ h4)).trans h4, Kd.bT h5 hb, h6⟩
theorem zM {w : World} {A1 A2 : Option Addr} {c1 c2 : Nat} {b c : List S64} (h1 : b.length ≤ c1) (h2 : Kd.C k64 w A1 b.length b) (h3 : c.length ≤ c2) (h4 : Kd.C k64 w A2 c.length c) : Kd.C (Kd.slice 64 k64) (w.alloc (.cells #[.slice A1 b.length c1, .slice A2 c.length c2] 61)) (some ⟨w.heap.size, 0, none⟩) [b, c].length [b, c] := by
 have hb : Below w.heap.size w (w.alloc (.cells #[.slice A1 b.length c1, .slice A2 c.length c2] 61)) := aN (Below.refl _ _) _
 have hk := heap_alloc_new w (.cells #[.slice A1 b.length c1, .slice A2 c.length c2] 61)
 refine ⟨rfl, by show 2 ≤ 9223372036854775807; decide, fun _ => ⟨_, rfl, fun j p hj => ?_⟩⟩
 have hj2 : j = 0 ∧ p = b ∨ j = 1 ∧ p = c := by
  rcases j with _ | _ | j
  ·left; simpa using hj.symm
  ·right; simpa using hj.symm
  ·simp at hj
 rcases hj2 with ⟨rfl, rfl⟩ | ⟨rfl, rfl⟩
 ·refine ⟨[.slice A1 p.length c1], rfl, ⟨A1, c1, rfl, h1, Kd.bT h2 hb⟩, fun i u hu => ?_⟩
  obtain rfl : i = 0 := by rcases i with _ | i; rfl; simp at hu
  obtain rfl : Value.slice A1 p.length c1 = u := by simpa using hu
  exact (aa hk 0).trans rfl
 ·refine ⟨[.slice A2 p.length c2], rfl, ⟨A2, c2, rfl, h3, Kd.bT h4 hb⟩, fun i u hu => ?_⟩
  obtain rfl : i = 0 := by rcases i with _ | i; rfl; simp at hu
  obtain rfl : Value.slice A2 p.length c2 = u := by simpa using hu
  exact (aa hk 1).trans rfl
theorem yO (w : World) (c1 c2 : Array Value) (t1 t2 : TypeId) : ((w.alloc (.cells c1 t1)).alloc (.cells c2 t2)).drew.heap[w.heap.size]? = some (.cells c1 t1 (0, 0)) := (Lib.alloc_old (w.alloc (.cells c1 t1)) (.cells c2 t2) w.heap.size (by simp)).trans (heap_alloc_new _ _)
theorem yJ (w : World) (c1 c2 : Array Value) (t1 t2 : TypeId) : ((w.alloc (.cells c1 t1)).alloc (.cells c2 t2)).drew.heap[w.heap.size + 1]? = some (.cells c2 t2 (0, 0)) := by
 have := heap_alloc_new (w.alloc (.cells c1 t1)) (.cells c2 t2)
 rw [show (w.alloc (.cells c1 t1)).heap.size = w.heap.size + 1 by simp] at this
 exact this
theorem yz (w : World) (o1 o2 : Obj) : Below w.heap.size w ((w.alloc o1).alloc o2).drew := jT (aN (aN (Below.refl _ _) _) _)
theorem wO {P : Program} {ops : Array Oper} {Q : Exit → Act → World → Prop} {oi : Oper} {N : Option Tmp} {a : Act} {w : World} {K : Act → World → Prop} {f : FuncId} {fn : Func} {as1 : Array Operand} {ts : Array TypeId} {cap : Array Value} (t : Tmp) (hf : P.funcs[f]? = some fn) (hname : (fn.name == "runtime.NumGoroutine") = false) (hb : fn.body.isSome = true) (args as0 : Array Value)
  (hw : Region.wanted oi (yielded ops a.tmps) = true) (hN : oi.dst = N) (hop : oi.op = .call { callee := .value (.tmp t), args := as1, argTypes := ts }) (ht : a.eval (.tmp t) = .func (.func f) #[] cap) (has : as1.map a.eval = as0) (hargs : #[] ++ as0 ++ cap = args)
  (h : Calls P f args w fun e w' => ∃ v, e = .returned v ∧ K (a.put N v) w') : if Region.wanted oi (yielded ops a.tmps) = true then Oper.wp P oi a w K Q else K (a.put N undef) w := by
 refine call_ f args hw hN ?_ h
 have he := ul hf hname hb args w
 unfold execOp
 simp [hop, resolve, Deferred.ofValue, invoke, ht, has]
 simp only [Array.empty_append] at hargs
 rw [hargs]
 exact he
theorem eG.calls (k : Nat) (A0 : Option Addr) (c0 : Nat) (l0 : List (List (List S64))) (a1 a2 : Bool) (r : List (List (List S64))) (w : World) (hr0 : Kd.C (Kd.slice 61 (Kd.slice 64 k64)) w A0 l0.length l0) (hc0 : l0.length ≤ c0) (h : eG.f k l0 a1 a2 = some r) :
  Calls Tryz.prog 81 #[.slice A0 l0.length c0, .bool a1, .bool a2] w fun e w' => ∃ v0_ : Value, e = .returned (v0_) ∧ Kd.R (Kd.slice 61 (Kd.slice 64 k64)) 96 w' w.heap.size (fun _ => True) v0_ r ∧ Below w.heap.size w w' := by
 unfold eG.f at h
 by_cases hp : 0 < l0.length ∧ l0.length ≤ 1000 ∧ (l0.getD 0 []).length ≤ 1000
 ·rw [if_pos hp] at h
  obtain ⟨hp1, hp2, hp3⟩ := hp
  obtain ⟨ad, A1, c1, rfl, hx1, hl1, hi1⟩ := Ac hr0 0 hp1
  have HF := a_ h
  have HR := a_ hr0
  have HC := a_ hc0
  obtain ⟨n, hn⟩ : ∃ n : Nat, l0.length = n := ⟨_, rfl⟩
  obtain ⟨m, hm⟩ : ∃ m : Nat, (l0.getD 0 []).length = m := ⟨_, rfl⟩
  rw [hm] at hp3 hx1 HF
  rw [hn] at hp1 hp2 HF ⊢
  have HN := a_ hn
  have HP := a_ (show 0 < n ∧ n ≤ 1000 ∧ m ≤ 1000 from ⟨hp1, hp2, hp3⟩)
  have hb2 := a_ (show Below w.heap.size w ((w.alloc (.cells #[.slice (some ad) n c0] 95)).alloc (.cells #[.bool a1] 4)) from aN (aN (Below.refl _ _) _) _)
  have hkR := a_ (show ((w.alloc (.cells #[.slice (some ad) n c0] 95)).alloc (.cells #[.bool a1] 4)).heap[w.heap.size]? = some (.cells #[.slice (some ad) n c0] 95 (0, 0)) from (Lib.alloc_old _ _ _ (by simp)).trans (heap_alloc_new _ _))
  have hkA := a_ (show ((w.alloc (.cells #[.slice (some ad) n c0] 95)).alloc (.cells #[.bool a1] 4)).heap[w.heap.size + 1]? = some (.cells #[.bool a1] 4 (0, 0)) from by
   have := heap_alloc_new (w.alloc (.cells #[.slice (some ad) n c0] 95)) (.cells #[.bool a1] 4)
   simpa using this)
  have hz2 := a_ (show ((w.alloc (.cells #[.slice (some ad) n c0] 95)).alloc (.cells #[.bool a1] 4)).heap.size = w.heap.size + 2 by simp)
  have g1 := eq_true hp1
  have g2 := eq_true (show (0 : Int) < (n : Int) by omega)
  have hmf : ∀ (fn : Fn) (first cap : Array Value) (w : World), (Instr.makeFunc fn first cap).run Tryz.prog w = .ok (.func fn first cap) w := fun _ _ _ _ => rfl
  clear hr0 hc0 hn hm hl1 hi1 hp1 hp2 hp3 h
  go_enter Tryz.func81, Tryz.ntmps81
  go_upto_region 1 with (fail)
  rw [show ad.add 0 = ad by simp [Addr.add]] at hx1
  have hx2 := (hb2.out.cell (World.block_lt_of_cell? _ _ hx1)).trans hx1
  obtain ⟨bR, hbR⟩ : ∃ bR : Nat, w.heap.size = bR := ⟨_, rfl⟩
  have HbR := a_ hbR
  rw [hbR] at hkR hkA hz2 ⊢
  clear hbR hx1
  generalize (w.alloc (.cells #[.slice (some ad) n c0] 95)).alloc (.cells #[.bool a1] 4) = w2 at hb2 hkR hkA hx2 hz2 ⊢
  have hcR : w2.cell? ⟨bR, 0, none⟩ = some (.slice (some ad) n c0) := (aa hkR.out 0).trans rfl
  have hcA : w2.cell? ⟨bR + 1, 0, none⟩ = some (.bool a1) := (aa hkA.out 0).trans rfl
  go_cut [7, 8] (fun v7 v8 wc => ∃ bH bW : Nat, v7 = .pointer (some ⟨bH, 0, none⟩) ∧ v8 = .pointer (some ⟨bW, 0, none⟩) ∧ af (wc.heap[bH]? = some (.cells #[.int .i64 (n : Int)] 3 (0, 0))) ∧ af (wc.heap[bW]? = some (.cells #[.int .i64 (m : Int)] 3 (0, 0))) ∧ af (bH ≠ bW ∧ bR + 1 < bH ∧ bR + 1 < bW) ∧ af (Below w2.heap.size w2 wc))
  case first =>
   go_region_held3 (fun w' => w'.cell? ⟨bR, 0, none⟩ = some (.slice (some ad) n c0) ∧ w'.cell? ad = some (.slice A1 m c1)) (go_keep) (fail)
   all_goals
    go_wp2_with fail
    go_meet
    first
     | exact ⟨w2.heap.size + 1, w2.heap.size, rfl, rfl, ⟨yJ _ _ _ _ _⟩, ⟨yO _ _ _ _ _⟩, ⟨by have := hz2.out; omega⟩, ⟨yz _ _ _⟩⟩
     | exact ⟨w2.heap.size, w2.heap.size + 1, rfl, rfl, ⟨yO _ _ _ _ _⟩, ⟨yJ _ _ _ _ _⟩, ⟨by have := hz2.out; omega⟩, ⟨yz _ _ _⟩⟩
  case rest =>
   obtain ⟨bH, bW, rfl, rfl, hkH, hkW, hne, hb3⟩ := hcut
   have hkR3 := a_ ((hb3.out.block _ (dI hkR.out)).trans hkR.out)
   have hkA3 := a_ ((hb3.out.block _ (dI hkA.out)).trans hkA.out)
   have hB3 := a_ (jg hb2.out hb3.out)
   clear hb2 hb3 hkR hkA hcR hcA hx2 g1 g2
   have hcR : wc.cell? ⟨bR, 0, none⟩ = some (.slice (some ad) n c0) := (aa hkR3.out 0).trans rfl
   have hcA : wc.cell? ⟨bR + 1, 0, none⟩ = some (.bool a1) := (aa hkA3.out 0).trans rfl
   have hcH : wc.cell? ⟨bH, 0, none⟩ = some (.int .i64 (n : Int)) := (aa hkH.out 0).trans rfl
   have hcW : wc.cell? ⟨bW, 0, none⟩ = some (.int .i64 (m : Int)) := (aa hkW.out 0).trans rfl
   have hfH := bi hkH.out 0
   have hfW := bi hkW.out 0
   have e1 : wrap64 (Int.tdiv (n : Int) 2) = ((n / 2 : Nat) : Int) := by have := HP.out; rw [Int.tdiv_eq_ediv_of_nonneg (by omega)]; unfold wrap64; omega
   have e2 : wrap64 (Int.tdiv (m : Int) 2) = ((m / 2 : Nat) : Int) := by have := HP.out; rw [Int.tdiv_eq_ediv_of_nonneg (by omega)]; unfold wrap64; omega
   go_upto_if 20 with (fail)
   go_cut [] (fun wc => af (uK (bR + 1) bH bW bR a1 (hvH a1 n) (hvW a1 m) (some ad) c0 l0 wc) ∧ af (Below w.heap.size w wc))
   case first =>
    have e3 : wrap64 ((n : Int) / 2) = ((n / 2 : Nat) : Int) := by have := HP.out; unfold wrap64; omega
    have e4 : wrap64 ((m : Int) / 2) = ((m / 2 : Nat) : Int) := by have := HP.out; unfold wrap64; omega
    have E3 := a_ e3
    have E4 := a_ e4
    clear e3 e4
    cases a1
    ·go_wp2_with fail
     go_meet
     have hB4 := a_ (aG (j := 0) (v := .int .i64 (wrap64 ((m : Int) / 2))) hB3.out (g := bW) (by have := hne.out; have := HbR.out; omega))
     refine ⟨⟨(aa (fK hkA3.out (by have := hne.out; simp only [ne_eq]; omega) _) 0).trans rfl, (aa (fK hkH.out (by have := hne.out; simp only [ne_eq]; omega) _) 0).trans rfl, ?_, ?_, Kd.bT HR.out hB4.out, HC.out⟩, hB4⟩
     ·rw [E4.out]
      exact (aa (gz hkW.out 0 _ rfl) 0).trans rfl
     ·rw [HN.out]
      exact (aa (fK hkR3.out (by have := hne.out; simp only [ne_eq]; omega) _) 0).trans rfl
    ·go_wp2_with fail
     go_meet
     have hB4 := a_ (aG (j := 0) (v := .int .i64 (wrap64 ((n : Int) / 2))) hB3.out (g := bH) (by have := hne.out; have := HbR.out; omega))
     refine ⟨⟨(aa (fK hkA3.out (by have := hne.out; simp only [ne_eq]; omega) _) 0).trans rfl, ?_, (aa (fK hkW.out (by have := hne.out; simp only [ne_eq]; omega) _) 0).trans rfl, ?_, Kd.bT HR.out hB4.out, HC.out⟩, hB4⟩
     ·rw [E3.out]
      exact (aa (gz hkH.out 0 _ rfl) 0).trans rfl
     ·rw [HN.out]
      exact (aa (fK hkR3.out (by have := hne.out; simp only [ne_eq]; omega) _) 0).trans rfl
   case rest =>
    obtain ⟨HI, HB⟩ := hcut
    clear hcR hcA hcH hcW hfH hfW e1 e2 hkH hkW hne hkR3 hkA3 hB3 hz2
    have HHW := a_ (show hvH a1 n ≤ 1000 ∧ hvW a1 m ≤ 1000 from by have := HP.out; unfold hvH hvW; constructor <;> split <;> omega)
    clear HP
    obtain ⟨H, hH⟩ : ∃ H : Nat, hvH a1 n = H := ⟨_, rfl⟩
    obtain ⟨V, hV⟩ : ∃ V : Nat, hvW a1 m = V := ⟨_, rfl⟩
    rw [hH, hV] at HI HF HHW
    clear hH hV
    have HBR := a_ (Below.refl wc.heap.size wc)
    go_wp2_with ((with_reducible refine bn (N := 26) rfl ?_); refine Kd.iM (Kd.slice 61 (Kd.slice 64 k64)) _ 96 ?hg (N := 26) ?hd (xs := ([] : List (List (List S64)))) (inner := []) (ok := fun _ => True) (okp := fun _ => True) ?hr ?hp (fun _ hk => hk) trivial (Below.refl _ _) (Nat.le_refl _) (by simp) ?_; (case hd => rfl); (case hg => rfl); (case hr => first | (go_simp; done) | (go_simp; rfl)); (case hp => exact (dG.none _ _)); intro A8 w3 ho4 hb hg_ hnew_; have HO := a_ ho4; have HB1 := a_ hb; have HI1 := a_ (HI.out.below hb); have hcH : w3.cell? ⟨bH, 0, none⟩ = some (.int .i64 (H : Int)) := HI1.out.2.1; clear hg_ hnew_ ho4 hb)
    clear hcH
    obtain ⟨C5, c30, A9⟩ := Kd.bg HO.out
    go_loopg [10, 28] (H + 1) (fun kq v10 v28 w' => ∃ (y : Nat) (acc : List (List (List S64))), v28 = .int .i64 (y : Int) ∧ af (y + kq = H + 1 ∧ y ≤ H ∧ acc.length = y) ∧ af (kX (fun y => kP (fun x => jM k l0 a1 a2 H V y x) V 0 []) (H - y) y acc = some r) ∧ af (Kd.R (Kd.slice 61 (Kd.slice 64 k64)) 96 w' wc.heap.size (fun _ => True) v10 acc) ∧ af (Below wc.heap.size wc w'))
    case atStart => exact ⟨0, [], rfl, ⟨by omega, by omega, rfl⟩, HF, HO, HB1⟩
    case round =>
     clear HF HO HB1 HBR HI1 A9
     obtain ⟨y, acc, rfl, HY, HF, HO, HB1⟩ := hrel
     cases gk with
     | zero => exact absurd HY.out (fun h => by omega)
     | succ k1 =>
      by_cases hy : y = H
      ·have d1 : decide ((y : Int) < (H : Int)) = false := decide_eq_false (by omega)
       have d2 : decide (y < H) = false := decide_eq_false (by omega)
       have HF2 := HF.out
       rw [show H - y = 0 by omega] at HF2
       unfold kX at HF2
       injection HF2 with HF3
       subst HF3
       clear hy HY HF
       go_wp2
       go_ret
       exact ⟨_, rfl, Kd.bE HO.out (ai HB.out), HB.out.trans (HB1.out.mono (ai HB.out))⟩
      ·have hyH : y < H := by have := HY.out; omega
       have HF2 := HF.out
       rw [show H - y = (H - (y + 1)) + 1 by omega] at HF2
       unfold kX at HF2
       obtain ⟨row, hrow, hf3⟩ := Option.bind_eq_some_iff.1 HF2
       have HROW := a_ hrow
       have HF4 := a_ hf3
       have HYH := a_ hyH
       have d1 : decide ((y : Int) < (H : Int)) = true := decide_eq_true (by omega)
       have d2 : decide (y < H) = true := decide_eq_true hyH
       have e1 : wrap64 ((y : Int) + 1) = ((y + 1 : Nat) : Int) := by have := HHW.out; unfold wrap64; omega
       have f1 : IntKind.i64.wrap ((y : Int) + 1) = ((y + 1 : Nat) : Int) := (eX _).trans e1
       have HIr := a_ (HI.out.below HB1.out)
       clear hy hyH HF HF2 hrow hf3
       go_wp2_with ((with_reducible refine bn (N := 31) rfl ?_); refine Kd.rT (Kd.slice 64 k64) _ 61 ?hg (N := 31) ?hd (xs := ([] : List (List S64))) (inner := []) (ok := fun _ => True) (okp := fun _ => True) ?hr ?hp (fun _ hk => hk) trivial (Below.refl _ _) (Nat.le_refl _) (by simp) ?_; (case hd => rfl); (case hg => rfl); (case hr => first | (go_simp; done) | (go_simp; rfl)); (case hp => exact (dG.none _ _)); intro B0 w7 ho8 hb hg_ hnew_; have A2 := a_ (Kd.bC HO.out (Kd.pm ho8) hb); have HS := a_ (Kd.mP ho8 (ai HB1.out)); have HB2 := a_ (jg HB1.out hb); have HI2 := a_ (HIr.out.below hb); have hcW : w7.cell? ⟨bW, 0, none⟩ = some (.int .i64 (V : Int)) := HI2.out.2.2.1; clear hg_ hnew_ ho8 hb)
       obtain ⟨B3, c31, B4⟩ := Kd.lT HS.out
       clear B4 B3 c31
       go_loopg [12, 33] (V + 1) (fun kq v12 v33 w' => ∃ (x : Nat) (ac2 : List (List S64)), v33 = .int .i64 (x : Int) ∧ af (x + kq = V + 1 ∧ x ≤ V ∧ ac2.length = x) ∧ af (kP (fun x => jM k l0 a1 a2 H V y x) (V - x) x ac2 = some row) ∧ af (Kd.R (Kd.slice 61 (Kd.slice 64 k64)) 96 w' wc.heap.size (fun k_ => some k_ ≠ (v12 : Value).ownBlock) u10 acc) ∧ af (Kd.S (Kd.slice 64 k64) 61 w' wc.heap.size (fun _ => True) v12 ac2) ∧ af (Below wc.heap.size wc w'))
       case atStart => exact ⟨0, [], rfl, ⟨by omega, by omega, rfl⟩, ⟨HROW.out⟩, ⟨Kd.ae A2.out (fun _ hk => hk.2)⟩, HS, HB2⟩
       case round =>
        clear HROW A2 HS HB2 HI2 hcW HIr HO HB1
        obtain ⟨x, ac2, rfl, HX, HROW, HO, HS, HB1⟩ := hrel
        have HIr := a_ (HI.out.below HB1.out)
        cases gk with
        | zero => exact absurd HX.out (fun h => by omega)
        | succ k2 =>
         by_cases hx : x = V
         ·have d3 : decide ((x : Int) < (V : Int)) = false := decide_eq_false (by omega)
          have d4 : decide (x < V) = false := decide_eq_false (by omega)
          have HR2 := HROW.out
          rw [show V - x = 0 by omega] at HR2
          unfold kP at HR2
          injection HR2 with HR3
          have HE := a_ HR3
          have HLY := a_ (show acc.length ≤ 1000000 by have := HY.out; have := HHW.out; omega)
          clear hx HX HROW HR3
          obtain ⟨Ao, co, eo⟩ := Kd.lT HS.out
          subst eo
          go_wp2_with ((with_reducible refine di (b := .append) (xs := #[.tmp 55, .tmp 57]) rfl ?_); at_builtin; refine Kd.fZ (Kd.slice 61 (Kd.slice 64 k64)) (w0 := wc) wc.heap.size rfl (.tmp 55) (.tmp 57) 95 96 (.slice none 0 0) 24 rfl Tryz.underlying95 pg rfl (by decide) (by omega) u10 acc ac2 [.slice Ao ac2.length co] (fun _ => True) (fun k_ => ((fun _ => True)) k_ ∧ some k_ ≠ (u10 : Value).ownBlock) rfl rfl ?aP (fun _ hk => hk) ?aF ?aO ?aB ?aS ?aL ?_; (case aP => exact Kd.lM (Kd.ae (Kd.gL ((Kd.S_R HS.out)) (Kd.jf HO.out) (by decide)) (fun k_ hk => ⟨trivial, hk.2⟩))); (case aB => exact HB1.out); (case aF => exact (fun _ _ => trivial)); (case aO => exact Kd.ae HO.out (fun _ hk => trivial)); (case aS => exact ai HB1.out); (case aL => have := HLY.out; omega); intro B7 C6 ho hb hg hat; have C0 := a_ ho; have HB6 := a_ hb; clear ho hb hg hat)
          go_roundg k1
          case measure => omega
          case rel => exact ⟨y + 1, acc ++ [row], cz, ⟨by have := HY.out; have := HYH.out; omega, by have := HYH.out; omega, by have := HY.out; rw [List.length_append, List.length_singleton]; omega⟩, HF4, ⟨by rw [← HE.out]; exact C0.out⟩, HB6⟩
         ·have hxV : x < V := by have := HX.out; omega
          have HR2 := HROW.out
          rw [show V - x = (V - (x + 1)) + 1 by omega] at HR2
          unfold kP at HR2
          obtain ⟨cell, hcell, hrow3⟩ := Option.bind_eq_some_iff.1 HR2
          unfold jM at hcell
          obtain ⟨ra, ha, hcell2⟩ := Option.bind_eq_some_iff.1 hcell
          obtain ⟨rb, hb, hcell3⟩ := Option.bind_eq_some_iff.1 hcell2
          obtain ⟨rc, hc, hcell4⟩ := Option.bind_eq_some_iff.1 hcell3
          have HA1 := a_ ha
          have HA2 := a_ hb
          have HA3 := a_ hc
          have HA4 := a_ hcell4
          have HR4 := a_ hrow3
          have HXV := a_ hxV
          have HLX := a_ (show ac2.length ≤ 1000000 by have := HX.out; have := HHW.out; omega)
          have d3 : decide ((x : Int) < (V : Int)) = true := decide_eq_true (by omega)
          have d4 : decide (x < V) = true := decide_eq_true hxV
          have e5 : wrap64 ((x : Int) + 1) = ((x + 1 : Nat) : Int) := by have := HHW.out; unfold wrap64; omega
          have f5 : IntKind.i64.wrap ((x : Int) + 1) = ((x + 1 : Nat) : Int) := (eX _).trans e5
          clear hx hxV HROW HR2 hcell hcell2 hcell3 hcell4 hrow3 ha hb hc
          try go_wp2
          refine gW (n := 19) (S := fun w' => w'.cell? ⟨bR + 1, 0, none⟩ = some (.bool a1)) (ds := [14, 15, 16, 17]) #[false, false, false, false, false, false, false, false, false, false, false, false, false, false, false, false, false, false, false] (by kernel_rfl) rfl rfl ((aM (Below.refl _ _)).cell (World.block_lt_of_cell? _ _ HIr.out.1) |>.trans HIr.out.1) (fun hHeld => ?_)
          have HI5 := a_ (HIr.out.below (aM (Below.refl _ _)))
          have A2 := a_ (Kd.ay HO.out)
          have HS5 := a_ (Kd.gZ HS.out)
          have HB5 := a_ (aM HB1.out)
          clear HIr HO HS HB1
          generalize wr.drew = C7 at HI5 A2 HS5 HB5 hHeld ⊢
          refine pv_ 0 (some 36) ?_ (hc := (by kernel_rfl))
          refine pv_ 1 (some 37) ?_ (hc := (by kernel_rfl))
          refine pv_ 2 (some 38) ?_ (hc := (by kernel_rfl))
          refine pv_ 3 (some 39) ?_ (hc := (by kernel_rfl))
          refine pv_ 4 (some 40) ?_ (hc := (by kernel_rfl))
          refine pv_ 5 (some 41) ?_ (hc := (by kernel_rfl))
          refine pv_ 9 (some 45) ?_ (hc := (by kernel_rfl))
          refine pv_ 10 (some 46) ?_ (hc := (by kernel_rfl))
          refine pv_ 11 (some 47) ?_ (hc := (by kernel_rfl))
          refine pv_ 12 (some 48) ?_ (hc := (by kernel_rfl))
          refine nH (i := 7) (N := some 43) (v := ?_) (a' := ?_) #[true, true, true, true, true, true, false, true, false, true, true, true, true, false, false, false, false, false, false] rfl rfl (by kernel_rfl) (fun _ _ _ h => h) (Or.inl ⟨by rfl, ?_⟩) hHeld ?_ ?_
          rotate_left
          ·intro w' s0
           go_simp
           with_reducible rfl
          rotate_left
          ·simp only [Act.put, List.setIfInBounds_toArray, List.set_cons_zero, List.set_cons_succ, eX, iI]
           rfl
          refine on_ (i := 6) (N := some 42) (fun K hK => ?_) (hc := (by kernel_rfl))
          refine wO 37 Tryz.func94 (by kernel_rfl) rfl #[.int .i64 (x : Int), .int .i64 (y : Int), .bool (!a2), .bool true, .pointer (some ⟨bR + 1, 0, none⟩), .pointer (some ⟨bH, 0, none⟩), .pointer (some ⟨bW, 0, none⟩), .pointer (some ⟨bR, 0, none⟩)] #[.int .i64 (x : Int), .int .i64 (y : Int), .bool (!a2), .bool true] (by rfl) rfl rfl (by rfl) wQ (by rfl) ?_
          refine (Ah (bR + 1) bH bW bR a1 H V (some ad) c0 l0 x y (!a2) true ra _ HHW.out.1 HHW.out.2 HXV.out HYH.out HI5.out HA1.out).mono ?_
          rintro e w_ ⟨⟨C1, c42, rfl, hl, hC⟩, rfl⟩
          have HL42 := a_ hl
          have A3 := a_ hC
          clear hl hC
          refine ⟨_, rfl, ?_⟩
          refine hK.out _ _ hHeld (fun hHeld => ?_)
          clear hK K
          refine nm_ ?_
          refine on_ (i := 8) (N := some 44) (fun K hK => ?_) (hc := (by kernel_rfl))
          refine iQ Tryz.func96 (by kernel_rfl) rfl #[.slice C1 ra.length c42, .bool a1] (by rfl) rfl rfl wQ ?_
          with_reducible refine (dS.calls _ _ ra a1 rb _ A3.out HL42.out HA2.out).mono ?_
          rintro e C8 ⟨v44, rfl, ho0, hb⟩
          have HS0_ := (hb.cell (World.block_lt_of_cell? _ _ hHeld)).trans hHeld
          have HI7 := a_ (HI5.out.below hb)
          have A6 := a_ (Kd.dF A2.out hb)
          have HS7 := a_ (Kd.qa HS5.out hb)
          have HB7 := a_ (jg HB5.out hb)
          have HV7 := a_ ho0
          clear HI5 A2 HS5 HB5 hb ho0 A3 HL42
          obtain ⟨C9, c44, C2⟩ := Kd.bg HV7.out
          subst C2
          refine ⟨_, rfl, ?_⟩
          refine hK.out _ _ HS0_ (fun hHeld => ?_)
          clear HS0_
          clear hK K
          refine nm_ ?_
          refine on_ (i := 13) (N := some 49) (fun K hK => ?_) (hc := (by kernel_rfl))
          refine wO 45 Tryz.func94 (by kernel_rfl) rfl #[.int .i64 (x : Int), .int .i64 (y : Int), .bool a2, .bool false, .pointer (some ⟨bR + 1, 0, none⟩), .pointer (some ⟨bH, 0, none⟩), .pointer (some ⟨bW, 0, none⟩), .pointer (some ⟨bR, 0, none⟩)] #[.int .i64 (x : Int), .int .i64 (y : Int), .bool a2, .bool false] (by rfl) rfl rfl (by rfl) wQ (by rfl) ?_
          refine (Ah (bR + 1) bH bW bR a1 H V (some ad) c0 l0 x y a2 false rc _ HHW.out.1 HHW.out.2 HXV.out HYH.out HI7.out HA3.out).mono ?_
          rintro e w_ ⟨⟨D0, c49, rfl, hl, hC⟩, rfl⟩
          have HL49 := a_ hl
          have A4 := a_ hC
          clear hl hC
          refine ⟨_, rfl, ?_⟩
          refine hK.out _ _ hHeld (fun hHeld => ?_)
          clear hK K
          refine nm_ ?_
          refine la_ (i := 14) (N := some 50) (fun K hK => ?_) (hc := (by kernel_rfl))
          refine ji (w1 := ?_) (v := ?_) (by rfl) rfl ?_ ?_
          rotate_left 2
          ·go_simp
           constructor
           ·rfl
           ·rfl
          refine hK.out _ _ ?_
          clear hK K
          refine nm_ ?_
          refine la_ (i := 15) (N := some 51) (fun K hK => ?_) (hc := (by kernel_rfl))
          refine iQ Tryz.func95 (by kernel_rfl) rfl #[.slice (some ⟨w_.heap.size, 0, none⟩) 2 2] (by rfl) rfl rfl wQ ?_
          refine (bK.calls k (some ⟨w_.heap.size, 0, none⟩) 2 [rb, rc] cell _ (zM (Kd.aI HV7.out).2.1 (Kd.aI HV7.out).2.2 HL49.out A4.out) (Nat.le_refl _) HA4.out).mono ?_
          rintro e D1 ⟨v51, rfl, ho0, hb⟩
          have A7 := a_ (Kd.bC (Kd.aC A6.out _) (Kd.aH ho0) hb)
          have HS8 := a_ (Kd.kE (Kd.gX HS7.out _) (Kd.aH ho0) hb)
          have HV8 := a_ (Kd.bE ho0 (ai (aN HB7.out _)))
          have HB8 := a_ (jg (aN HB7.out _) hb)
          clear HI7 A6 HS7 HB7 HV7 hb ho0 A4 HL49 hHeld
          obtain ⟨A5, c51, C3⟩ := Kd.bg HV8.out
          subst C3
          refine ⟨_, rfl, ?_⟩
          refine hK.out _ _ ?_
          clear hK K
          refine nm_ ?_
          refine la_ (i := 16) (N := some 52) (fun K hK => ?_) (hc := (by kernel_rfl))
          refine ji (w1 := ?_) (v := ?_) (by rfl) rfl ?_ ?_
          rotate_left 2
          ·go_simp
           constructor
           ·rfl
           ·rfl
          refine hK.out _ _ ?_
          clear hK K
          refine nm_ ?_
          refine la_ (i := 17) (N := some 53) (fun K hK => ?_) (hc := (by kernel_rfl))
          refine Kd.lv (Kd.slice 64 k64) (w0 := wc) wc.heap.size (by rfl) (.tmp 36) (.tmp 52) 96 61 (.slice none 0 0) 24 rfl Tryz.underlying96 nL rfl (by decide) (by omega) u12 ac2 cell [.slice A5 cell.length c51] (fun _ => True) (fun k_ => some k_ = (.slice A5 cell.length c51 : Value).ownBlock) rfl rfl ?aP (fun k_ hk_ => ((Kd.ae (ok' := fun k_ => ((fun _ => True)) k_ ∧ some k_ ≠ (u12 : Value).ownBlock) (Kd.gL (HV8.out) (Kd.jk HS8.out) (by decide)) (fun k_ hk => ⟨trivial, hk.2⟩))).1 k_ hk_.symm) ?aF ?aO ?aB ?aS ?aL ?_
          (case aP => exact Kd.lM (Kd.ae (Kd.iX rfl (Kd.ae (ok' := fun k_ => ((fun _ => True)) k_ ∧ some k_ ≠ (u12 : Value).ownBlock) (Kd.gL (HV8.out) (Kd.jk HS8.out) (by decide)) (fun k_ hk => ⟨trivial, hk.2⟩))) (fun _ h_ => h_)))
          (case aB => exact HB8.out)
          (case aF => exact (fun _ _ => trivial))
          (case aO => exact Kd.mD HS8.out (fun k_ hk => ⟨trivial, fun e_ => hk.2 e_⟩))
          (case aS => exact ai HB8.out)
          (case aL => have := HLX.out; omega)
          intro v53 D2 ho hb hg hat
          have C4 := a_ (Kd.fe (ok := (fun k_ => nb_ k_ A5 cell.length c51)) (Kd.ae A7.out (fun _ hk => ⟨hk.2, hk.1⟩)) hg hat)
          have HS9 := a_ ho
          have HB9 := a_ hb
          clear A7 HS8 HV8 HB8 ho hb hg hat
          refine hK.out _ _ ?_
          clear hK K
          refine nm_ ?_
          refine pv_ 18 (some 12) ?_ (hc := (by kernel_rfl))
          refine jl (by kernel_rfl) ?_
          try go_wp2
          go_roundg k2
          case measure => omega
          case rel => exact ⟨x + 1, ac2 ++ [cell], cz, ⟨by have := HX.out; have := HXV.out; omega, by have := HXV.out; omega, by have := HX.out; rw [List.length_append, List.length_singleton]; omega⟩, HR4, ⟨Kd.ae C4.out (fun _ hk => hk.2)⟩, HS9, HB9⟩
 ·rw [if_neg hp] at h; cases h
mutual
def ax.l0 : Nat → Int → ByteArray → List (List (List (S64))) → Int → Int → Option ((List (S64)))
 | 0, _, _, _, _, _ => none
 | k + 1, x0, x2, x7, x14, x15 => if x15 < x14 then (ax.l1 k x0 x2 x7 x15 (([] : List (List (S64)))) x14 x15 x0 0) else (ax.l2 k x2 x7 (x2.size : Int) 0)
def ax.l1 : Nat → Int → ByteArray → List (List (List (S64))) → Int → List (List (S64)) → Int → Int → Int → Int → Option ((List (S64)))
 | 0, _, _, _, _, _, _, _, _, _ => none
 | k + 1, x0, x2, x7, x8, x9, x14, x15, x19, x20 => if x20 < x19 then (if x9.length < 5864062014805 then (ax.l1 k x0 x2 x7 x8 (x9 ++ [(([(⟨x20, x8, false, false⟩ : S64)] : List (S64)))]) x14 x15 x19 (wrap64 (x20 + 1))) else (none)) else (if x7.length < 5864062014805 then (ax.l0 k x0 x2 (x7 ++ [x9]) x14 (wrap64 (x15 + 1))) else (none))
def ax.l2 : Nat → ByteArray → List (List (List (S64))) → Int → Int → Option ((List (S64)))
 | 0, _, _, _, _ => none
 | k + 1, x2, x7, x37, x38 => if x38 < x37 then (if 0 ≤ x38 then (if x38 < (x2.size : Int) then (if (bt x2 x38) = 84 then (if (bt x2 x38) = 76 then ((eG.f k x7 true true).bind fun t156 => (ax.l2 k x2 t156 x37 (wrap64 (x38 + 1)))) else ((eG.f k x7 true ((bt x2 x38) == 84)).bind fun t159 => (ax.l2 k x2 t159 x37 (wrap64 (x38 + 1))))) else (if (bt x2 x38) = 76 then ((eG.f k x7 ((bt x2 x38) == 66) true).bind fun t162 => (ax.l2 k x2 t162 x37 (wrap64 (x38 + 1)))) else ((eG.f k x7 ((bt x2 x38) == 66) ((bt x2 x38) == 84)).bind fun t165 => (ax.l2 k x2 t165 x37 (wrap64 (x38 + 1)))))) else (none)) else (none)) else (if 0 < (x7.length : Int) then (if 0 < ((bI x7 0).length : Int) then (some (ek (bI x7 0) 0)) else (none)) else (none))
end
def ax.f (k : Nat) (a0 : Int) (a1 : Int) (a2 : ByteArray) : Option ((List (S64))) := ax.l0 k a0 a2 (([] : List (List (List (S64))))) a1 0
theorem ax.dC : ∀ k, (∀ y0 y1 y2 y3 y4, LeO (ax.l0 k y0 y1 y2 y3 y4) (ax.l0 (k + 1) y0 y1 y2 y3 y4)) ∧ (∀ y0 y1 y2 y3 y4 y5 y6 y7 y8, LeO (ax.l1 k y0 y1 y2 y3 y4 y5 y6 y7 y8) (ax.l1 (k + 1) y0 y1 y2 y3 y4 y5 y6 y7 y8)) ∧ (∀ y0 y1 y2 y3, LeO (ax.l2 k y0 y1 y2 y3) (ax.l2 (k + 1) y0 y1 y2 y3))
 | 0 => ⟨fun _ _ _ _ _ r h => by simp [ax.l0] at h, fun _ _ _ _ _ _ _ _ _ r h => by simp [ax.l1] at h, fun _ _ _ _ r h => by simp [ax.l2] at h⟩
 | k + 1 => by
  obtain ⟨ih0, ih1, ih2⟩ := ax.dC k
  refine ⟨?_, ?_, ?_⟩ <;> intros <;> (first | unfold ax.l0 | unfold ax.l1 | unfold ax.l2) <;> (repeat' first | (with_reducible first | exact ih0 .. | exact ih1 .. | exact ih2 .. | exact eG.mono .. | exact LeO.refl .. | exact LeO.none .. | refine LeO.ite ?_ ?_ | refine LeO.bind ?_ (fun _ => ?_)))
theorem ax.mono : ∀ a0 a1 a2 k, LeO (ax.f k a0 a1 a2) (ax.f (k + 1) a0 a1 a2) := by
 intro a0 a1 a2 k
 obtain ⟨ih0, ih1, ih2⟩ := ax.dC k
 unfold ax.f
 repeat' first | (with_reducible first | exact ih0 .. | exact ih1 .. | exact ih2 .. | exact eG.mono .. | exact LeO.refl .. | exact LeO.none .. | refine LeO.ite ?_ ?_ | refine LeO.bind ?_ (fun _ => ?_))
theorem ax.calls (k : Nat) (a0 : Int) (a1 : Int) (a2 : ByteArray) (r : List (S64)) (w : World) (h : ax.f k a0 a1 a2 = some r) :
  Calls Tryz.prog 44 #[.int .i64 a0, .int .i64 a1, .string a2] w fun e w' => ∃ v0_ : Value, e = .returned (v0_) ∧ Kd.R k64 64 w' w.heap.size (fun _ => True) v0_ r ∧ Below w.heap.size w w' := by
 have hu64 := Tryz.underlying64
 have HB := a_ (Below.refl w.heap.size w)
 have H : (ax.l0 k a0 a2 (([] : List (List (List (S64))))) a1 0) = some r := h
 clear h
 obtain ⟨E3, C3⟩ : ∃ y_ : List (List (List (S64))), y_ = (([] : List (List (List (S64))))) := ⟨_, rfl⟩
 replace H : (ax.l0 k a0 a2 E3 a1 0) = some r := rh_ C3 H
 have D7 := a_ C3
 clear C3
 have H' := a_ H
 clear H
 go_enter Tryz.func44, Tryz.ntmps44
 go_wp2_with (first | ((with_reducible refine bn (N := 13) rfl ?_); refine Kd.iM (Kd.slice 61 (Kd.slice 64 k64)) _ 96 ?hg (N := 13) ?hd (xs := ([] : List (List (List (S64))))) (inner := []) (ok := fun _ => True) (okp := fun _ => True) ?hr ?hp (fun _ hk => hk) trivial (Below.refl _ _) (Nat.le_refl _) (by simp) ?_; (case hd => rfl); (case hg => rfl); (case hr => first | (go_simp; done) | (go_simp; rfl)); (case hp => exact (dG.none _ _)); intro K0 w4 ho5 hb hg_ hnew_; clear hg_ hnew_; (first | rw [← D7.out] at ho5 | (simp only [Int.reduceToNat] at ho5; rw [← D7.out] at ho5)); have E4 := a_ (Kd.bE ho5 (ai bX)); replace HB := cK bX hb; clear hb ho5))
 go_loopg [7, 15] k (fun kq v7 v15 w' => ∃ (A5 : List (List (List (S64)))) (A2 : Int), v15 = .int .i64 A2 ∧ af (ax.l0 kq a0 a2 A5 a1 A2 = some r) ∧ af (kq ≤ k) ∧ af (Kd.R (Kd.slice 61 (Kd.slice 64 k64)) 96 w' w.heap.size (fun _ => True) v7 A5) ∧ af (Below w.heap.size w w'))
 case atStart => exact ⟨(E3), (0), cz, H', ⟨Nat.le_refl _⟩, ⟨by (with_reducible repeat (first | apply Kd.aC | apply Kd.aA | apply Kd.ay)); exact E4.out⟩, ⟨bX⟩⟩
 case round =>
  clear H'
  obtain ⟨A5, A2, rfl, HA, HK1, HO_7, HB⟩ := hrel
  cases gk with
  | zero => exact absurd HA.out (by simp [ax.l0])
  | succ k1 =>
   have H := HA.out
   clear HA
   simp only [ax.l0] at H
   by_cases c6 : A2 < a1
   ·rw [if_pos c6] at H
    have E0 := decide_eq_true c6
    clear c6
    obtain ⟨E5, C4⟩ : ∃ y_ : List (List (S64)), y_ = (([] : List (List (S64)))) := ⟨_, rfl⟩
    replace H : (ax.l1 k1 a0 a2 A5 A2 E5 a1 A2 a0 0) = some r := rh_ C4 H
    have D8 := a_ C4
    clear C4
    have H' := a_ H
    clear H
    go_wp2_with (first | ((with_reducible refine bn (N := 18) rfl ?_); refine Kd.rT (Kd.slice 64 k64) _ 61 ?hg (N := 18) ?hd (xs := ([] : List (List (S64)))) (inner := []) (ok := fun _ => True) (okp := fun _ => True) ?hr ?hp (fun _ hk => hk) trivial (Below.refl _ _) (Nat.le_refl _) (by simp) ?_; (case hd => rfl); (case hg => rfl); (case hr => first | (go_simp; done) | (go_simp; rfl)); (case hp => exact (dG.none _ _)); intro K1 w7 ho8 hb hg_ hnew_; clear hg_ hnew_; (first | rw [← D8.out] at ho8 | (simp only [Int.reduceToNat] at ho8; rw [← D8.out] at ho8)); replace HO_7 := a_ (Kd.bC (ra_ HO_7.out) (Kd.pm ho8) hb); have E6 := a_ (Kd.mP ho8 (ai bX)); replace HB := cK bX hb; clear hb ho8))
    go_loopg [9, 20] k1 (fun kq v9 v20 w' => ∃ (A6 : List (List (S64))) (A3 : Int), v20 = .int .i64 A3 ∧ af (ax.l1 kq a0 a2 A5 A2 A6 a1 A2 a0 A3 = some r) ∧ af (kq ≤ k1) ∧ af (Kd.R (Kd.slice 61 (Kd.slice 64 k64)) 96 w' w.heap.size (fun k_ => some k_ ≠ (v9 : Value).ownBlock) u7 A5) ∧ af (Kd.S (Kd.slice 64 k64) 61 w' w.heap.size (fun _ => True) v9 A6) ∧ af (Below w.heap.size w w'))
    case atStart => exact ⟨(E5), (0), cz, H', ⟨Nat.le_refl _⟩, ⟨by (with_reducible repeat (first | apply Kd.aC | apply Kd.aA | apply Kd.ay)); exact Kd.ae HO_7.out (fun _ hk => hk.2)⟩, ⟨by (with_reducible repeat (first | apply Kd.gX | apply Kd.ik | apply Kd.gZ)); exact E6.out⟩, ⟨bX⟩⟩
    case round =>
     clear H'
     try clear E0
     obtain ⟨A6, A3, rfl, HA, HK2, HO_7, A7, HB⟩ := hrel
     cases gk with
     | zero => exact absurd HA.out (by simp [ax.l1])
     | succ k2 =>
      have H := HA.out
      clear HA
      simp only [ax.l1] at H
      by_cases c9 : A3 < a0
      ·rw [if_pos c9] at H
       have G8 := decide_eq_true c9
       clear c9
       obtain ⟨C2, C5⟩ : ∃ y_ : List (S64), y_ = (([(⟨A3, A2, false, false⟩ : S64)] : List (S64))) := ⟨_, rfl⟩
       replace H : (if A6.length < 5864062014805 then (ax.l1 k2 a0 a2 A5 A2 (A6 ++ [C2]) a1 A2 a0 (wrap64 (A3 + 1))) else (none)) = some r := rh_ C5 H
       have D9 := a_ C5
       clear C5
       replace H := ig_ H; obtain ⟨c10, H⟩ := H
       have LMc10 := a_ c10
       clear c10
       obtain ⟨E7, C6⟩ : ∃ y_ : List (List (S64)), y_ = (A6 ++ [C2]) := ⟨_, rfl⟩
       replace H : (ax.l1 k2 a0 a2 A5 A2 E7 a1 A2 a0 (wrap64 (A3 + 1))) = some r := rh_ C6 H
       have E8 := a_ C6
       clear C6
       have H' := a_ H
       clear H
       go_wp2_with (first | ((with_reducible refine bn (N := 27) rfl ?_); refine Kd.iM k64 _ 64 ?hg (N := 27) ?hd (xs := ([(⟨A3, A2, false, false⟩ : S64)] : List (S64))) (inner := [.int .i64 A3, .int .i64 A2, .bool false, .bool false]) (ok := fun _ => True) (okp := fun _ => True) ?hr ?hp (fun _ hk => hk) trivial (Below.refl _ _) (Nat.le_refl _) (by simp) ?_; (case hd => rfl); (case hg => rfl); (case hr => first | (go_simp; done) | (go_simp; rfl)); (case hp => exact (dG.c4 (show Kd.M k64 _ _ _ (⟨A3, A2, false, false⟩ : S64) [.int .i64 A3, .int .i64 A2, .bool false, .bool false] from (mZ _ _ _ (⟨A3, A2, false, false⟩ : S64) )) (dG.none _ _))); intro K2 L5 ho12 hb hg_ hnew_; clear hg_ hnew_; (first | rw [← D9.out] at ho12 | (simp only [Int.reduceToNat] at ho12; rw [← D9.out] at ho12)); replace HO_7 := a_ (Kd.bC (ra_ HO_7.out) (Kd.aH ho12) hb); replace A7 := a_ (Kd.kE (by (with_reducible repeat (first | apply Kd.gX | apply Kd.ik | apply Kd.gZ)); exact A7.out) (Kd.aH ho12) hb); have B0 := a_ (Kd.bE ho12 (ai bX)); replace HB := cK bX hb; clear hb ho12; obtain ⟨E1, E2, G9⟩ := Kd.bg B0.out; subst G9) | ((with_reducible refine di (b := .append) (xs := #[.tmp 23, .tmp 28]) rfl ?_); at_builtin; refine Kd.nY (Kd.slice 64 k64) (w0 := w) w.heap.size rfl (.tmp 23) (.tmp 28) 96 61 (.slice none 0 0) 24 rfl Tryz.underlying96 nL rfl (by decide) (by omega) u9 A6 C2 [.slice E1 C2.length E2] (fun _ => True) (fun k_ => some k_ = (.slice E1 C2.length E2 : Value).ownBlock) rfl rfl ?aP (fun k_ hk_ => ((Kd.ae (ok' := fun k_ => ((fun _ => True)) k_ ∧ some k_ ≠ (u9 : Value).ownBlock) (Kd.gL (B0.out) (Kd.jk A7.out) (by decide)) (fun k_ hk => ⟨trivial, hk.2⟩))).1 k_ hk_.symm) ?aF ?aO ?aB ?aS ?aL ?_; (case aP => exact Kd.lM (Kd.ae (Kd.iX rfl (Kd.ae (ok' := fun k_ => ((fun _ => True)) k_ ∧ some k_ ≠ (u9 : Value).ownBlock) (Kd.gL (B0.out) (Kd.jk A7.out) (by decide)) (fun k_ hk => ⟨trivial, hk.2⟩))) (fun _ h_ => h_))); (case aB => exact bX); (case aF => exact (fun _ _ => trivial)); (case aO => exact (by (with_reducible repeat (first | apply Kd.gX | apply Kd.ik | apply Kd.gZ)); exact Kd.mD A7.out (fun k_ hk => ⟨trivial, fun e_ => hk.2 e_⟩))); (case aS => exact (ai bX)); (case aL => have := LMc10.out; omega); intro K3 L6 ho hb hg hat; rw [← E8.out] at ho; replace HO_7 := a_ (Kd.fe (ok := (fun k_ => nb_ k_ E1 C2.length E2)) (rc_ (h := by exact Kd.ae HO_7.out (fun _ hk => ⟨hk.2, hk.1⟩))) hg hat); replace HB := a_ (hb); have E9 := a_ (ho); clear B0; clear A7; clear ho hb hg hat))
       go_roundg k2
       case measure => have := HK1.out; have := HK2.out; omega
       case rel => exact ⟨(E7), (wrap64 (A3 + 1)), cz, H', ⟨jW⟩, ⟨by (with_reducible repeat (first | apply Kd.aC | apply Kd.aA | apply Kd.ay)); exact Kd.ae HO_7.out (fun _ hk => hk.2)⟩, ⟨by (with_reducible repeat (first | apply Kd.gX | apply Kd.ik | apply Kd.gZ)); exact E9.out⟩, ⟨bX⟩⟩
      rw [if_neg c9] at H
      have G8 := decide_eq_false c9
      clear c9
      replace H := ig_ H; obtain ⟨c15, H⟩ := H
      have LMc15 := a_ c15
      clear c15
      obtain ⟨F0, C7⟩ : ∃ y_ : List (List (List (S64))), y_ = (A5 ++ [A6]) := ⟨_, rfl⟩
      replace H : (ax.l0 k2 a0 a2 F0 a1 (wrap64 (A2 + 1))) = some r := rh_ C7 H
      have F1 := a_ C7
      clear C7
      have H' := a_ H
      clear H
      obtain ⟨H0, H1, H2⟩ := Kd.lT A7.out
      subst H2
      go_wp2_with (first | ((with_reducible refine di (b := .append) (xs := #[.tmp 31, .tmp 33]) rfl ?_); at_builtin; refine Kd.fZ (Kd.slice 61 (Kd.slice 64 k64)) (w0 := w) w.heap.size rfl (.tmp 31) (.tmp 33) 95 96 (.slice none 0 0) 24 rfl Tryz.underlying95 pg rfl (by decide) (by omega) u7 A5 A6 [.slice H0 A6.length H1] (fun _ => True) (fun k_ => ((fun _ => True)) k_ ∧ some k_ ≠ (u7 : Value).ownBlock) rfl rfl ?aP (fun _ hk => hk) ?aF ?aO ?aB ?aS ?aL ?_; (case aP => exact Kd.lM (Kd.ae (Kd.gL ((Kd.S_R A7.out)) (Kd.jf HO_7.out) (by decide)) (fun k_ hk => ⟨trivial, hk.2⟩))); (case aB => exact bX); (case aF => exact (fun _ _ => trivial)); (case aO => exact (rc_ (h := by exact Kd.ae HO_7.out (fun _ hk => trivial)))); (case aS => exact (ai bX)); (case aL => have := LMc15.out; omega); intro K4 L7 ho hb hg hat; rw [← F1.out] at ho; replace HB := a_ (hb); have F2 := a_ (ho); clear HO_7; clear A7; clear ho hb hg hat))
      go_roundg k2
      case measure => have := HK1.out; have := HK2.out; omega
      case rel => exact ⟨(F0), (wrap64 (A2 + 1)), cz, H', ⟨jW⟩, ⟨by (with_reducible repeat (first | apply Kd.aC | apply Kd.aA | apply Kd.ay)); exact F2.out⟩, ⟨bX⟩⟩
   rw [if_neg c6] at H
   have E0 := decide_eq_false c6
   clear c6
   have H' := a_ H
   clear H
   go_wp2
   go_loopg [7, 38] k1 (fun kq v7 v38 w' => ∃ (A4 : List (List (List (S64)))) (A1 : Int), v38 = .int .i64 A1 ∧ af (ax.l2 kq a2 A4 (a2.size : Int) A1 = some r) ∧ af (kq ≤ k1) ∧ af (Kd.R (Kd.slice 61 (Kd.slice 64 k64)) 96 w' w.heap.size (fun _ => True) v7 A4) ∧ af (Below w.heap.size w w'))
   case atStart => exact ⟨(A5), (0), cz, H', ⟨Nat.le_refl _⟩, ⟨by (with_reducible repeat (first | apply Kd.aC | apply Kd.aA | apply Kd.ay)); exact HO_7.out⟩, ⟨bX⟩⟩
   case round =>
    clear H'
    try clear E0
    obtain ⟨A4, A1, rfl, HA, HK2, HO_7, HB⟩ := hrel
    cases gk with
    | zero => exact absurd HA.out (by simp [ax.l2])
    | succ k2 =>
     have H := HA.out
     clear HA
     simp only [ax.l2] at H
     by_cases c18 : A1 < (a2.size : Int)
     ·rw [if_pos c18] at H
      have F3 := decide_eq_true c18
      clear c18
      replace H := ig_ H; obtain ⟨c19, H⟩ := H
      have J2 := decide_eq_true c19
      clear c19
      replace H := ig_ H; obtain ⟨c20, H⟩ := H
      have J3 := decide_eq_true c20
      clear c20
      by_cases c22 : (bt a2 A1) = 84
      ·rw [if_pos c22] at H
       have C8 : ((bt a2 A1) == 84) = true := beq_iff_eq.mpr c22
       (try simp only [C8] at H)
       have F4 : ((bt a2 A1) != 84) = false := bne_eq_false_iff_eq.mpr c22
       clear c22
       by_cases c23 : (bt a2 A1) = 76
       ·rw [if_pos c23] at H
        have C9 : ((bt a2 A1) == 76) = true := beq_iff_eq.mpr c23
        (try simp only [C9] at H)
        have F5 : ((bt a2 A1) != 76) = false := bne_eq_false_iff_eq.mpr c23
        clear c23
        replace H := bo_ H; obtain ⟨F6, K5, H⟩ := H; (try dsimp only at H)
        have H' := a_ H
        clear H
        have D0 : 0 ≤ (A1 : Int) := of_decide_eq_true aX
        have D1 : A1 < (a2.size : Int) := of_decide_eq_true aX
        have hx21 := jG a2 A1
        replace D0 := eq_true D0
        replace D1 := eq_true D1
        obtain ⟨H3, H4, H5⟩ := Kd.bg HO_7.out
        subst H5
        go_wp2_with (first | ((with_reducible refine av (f := 81) rfl ?_); refine bJ (some 57) rfl rfl Tryz.func81 (by kernel_rfl) rfl #[.slice H3 A4.length H4, .bool true, .bool true] rfl dN ?_; (with_reducible refine (eG.calls k2 _ _ A4 true true F6 _ ?side1 ?side2 K5.out).mono ?_); (case side1 => exact xI); (case side2 => exact (Kd.aI HO_7.out).2.1); rintro e L8 ⟨K6, rfl, ho0, hb⟩; refine ⟨_, rfl, ?_⟩; have F7 := a_ (Kd.bE (Kd.bq ho0 (Kd.df (ra_ HO_7.out))) (ai bX)); replace HO_7 := a_ (Kd.bC (ra_ HO_7.out) (Kd.aH ho0) hb); replace HB := cK bX hb; (try clear hb); (try clear ho0)))
        go_roundg k2
        case measure => have := HK1.out; have := HK2.out; omega
        case rel => exact ⟨(F6), (wrap64 (A1 + 1)), cz, H', ⟨jW⟩, ⟨by (with_reducible repeat (first | apply Kd.aC | apply Kd.aA | apply Kd.ay)); exact Kd.ae F7.out (fun _ hk => trivial)⟩, ⟨bX⟩⟩
       rw [if_neg c23] at H
       have C9 : ((bt a2 A1) == 76) = false := beq_eq_false_iff_ne.mpr c23
       (try simp only [C9] at H)
       have F5 : ((bt a2 A1) != 76) = true := bne_iff_ne.mpr c23
       replace H := bo_ H; obtain ⟨F8, K7, H⟩ := H; (try dsimp only at H)
       have H' := a_ H
       clear H
       have D0 : 0 ≤ (A1 : Int) := of_decide_eq_true aX
       have D1 : A1 < (a2.size : Int) := of_decide_eq_true aX
       have hx21 := jG a2 A1
       replace D0 := eq_true D0
       replace D1 := eq_true D1
       obtain ⟨H6, H7, H8⟩ := Kd.bg HO_7.out
       subst H8
       go_wp2_with (first | ((with_reducible refine av (f := 81) rfl ?_); refine bJ (some 57) rfl rfl Tryz.func81 (by kernel_rfl) rfl #[.slice H6 A4.length H7, .bool true, .bool true] rfl dN ?_; (with_reducible refine (eG.calls k2 _ _ A4 true true F8 _ ?side1 ?side2 K7.out).mono ?_); (case side1 => exact xI); (case side2 => exact (Kd.aI HO_7.out).2.1); rintro e L9 ⟨K8, rfl, ho0, hb⟩; refine ⟨_, rfl, ?_⟩; have F9 := a_ (Kd.bE (Kd.bq ho0 (Kd.df (ra_ HO_7.out))) (ai bX)); replace HO_7 := a_ (Kd.bC (ra_ HO_7.out) (Kd.aH ho0) hb); replace HB := cK bX hb; (try clear hb); (try clear ho0)))
       go_roundg k2
       case measure => have := HK1.out; have := HK2.out; omega
       case rel => exact ⟨(F8), (wrap64 (A1 + 1)), cz, H', ⟨jW⟩, ⟨by (with_reducible repeat (first | apply Kd.aC | apply Kd.aA | apply Kd.ay)); exact Kd.ae F9.out (fun _ hk => trivial)⟩, ⟨bX⟩⟩
      rw [if_neg c22] at H
      have C8 : ((bt a2 A1) == 84) = false := beq_eq_false_iff_ne.mpr c22
      (try simp only [C8] at H)
      have F4 : ((bt a2 A1) != 84) = true := bne_iff_ne.mpr c22
      by_cases c30 : (bt a2 A1) = 76
      ·rw [if_pos c30] at H
       have D2 : ((bt a2 A1) == 76) = true := beq_iff_eq.mpr c30
       (try simp only [D2] at H)
       have G0 : ((bt a2 A1) != 76) = false := bne_eq_false_iff_eq.mpr c30
       clear c30
       replace H := bo_ H; obtain ⟨G1, K9, H⟩ := H; (try dsimp only at H)
       have H' := a_ H
       clear H
       have D0 : 0 ≤ (A1 : Int) := of_decide_eq_true aX
       have D1 : A1 < (a2.size : Int) := of_decide_eq_true aX
       have hx21 := jG a2 A1
       replace D0 := eq_true D0
       replace D1 := eq_true D1
       obtain ⟨H9, I0, I1⟩ := Kd.bg HO_7.out
       subst I1
       go_wp2_with (first | ((with_reducible refine av (f := 81) rfl ?_); refine bJ (some 57) rfl rfl Tryz.func81 (by kernel_rfl) rfl #[.slice H9 A4.length I0, .bool ((bt a2 A1) == 66), .bool true] rfl dN ?_; (with_reducible refine (eG.calls k2 _ _ A4 ((bt a2 A1) == 66) true G1 _ ?side1 ?side2 K9.out).mono ?_); (case side1 => exact xI); (case side2 => exact (Kd.aI HO_7.out).2.1); rintro e M0 ⟨L0, rfl, ho0, hb⟩; refine ⟨_, rfl, ?_⟩; have G2 := a_ (Kd.bE (Kd.bq ho0 (Kd.df (ra_ HO_7.out))) (ai bX)); replace HO_7 := a_ (Kd.bC (ra_ HO_7.out) (Kd.aH ho0) hb); replace HB := cK bX hb; (try clear hb); (try clear ho0)))
       go_roundg k2
       case measure => have := HK1.out; have := HK2.out; omega
       case rel => exact ⟨(G1), (wrap64 (A1 + 1)), cz, H', ⟨jW⟩, ⟨by (with_reducible repeat (first | apply Kd.aC | apply Kd.aA | apply Kd.ay)); exact Kd.ae G2.out (fun _ hk => trivial)⟩, ⟨bX⟩⟩
      rw [if_neg c30] at H
      have D2 : ((bt a2 A1) == 76) = false := beq_eq_false_iff_ne.mpr c30
      (try simp only [D2] at H)
      have G0 : ((bt a2 A1) != 76) = true := bne_iff_ne.mpr c30
      replace H := bo_ H; obtain ⟨G3, L1, H⟩ := H; (try dsimp only at H)
      have H' := a_ H
      clear H
      have D0 : 0 ≤ (A1 : Int) := of_decide_eq_true aX
      have D1 : A1 < (a2.size : Int) := of_decide_eq_true aX
      have hx21 := jG a2 A1
      replace D0 := eq_true D0
      replace D1 := eq_true D1
      obtain ⟨I2, I3, I4⟩ := Kd.bg HO_7.out
      subst I4
      go_wp2_with (first | ((with_reducible refine av (f := 81) rfl ?_); refine bJ (some 57) rfl rfl Tryz.func81 (by kernel_rfl) rfl #[.slice I2 A4.length I3, .bool ((bt a2 A1) == 66), .bool false] rfl dN ?_; (with_reducible refine (eG.calls k2 _ _ A4 ((bt a2 A1) == 66) false G3 _ ?side1 ?side2 L1.out).mono ?_); (case side1 => exact xI); (case side2 => exact (Kd.aI HO_7.out).2.1); rintro e M1 ⟨L2, rfl, ho0, hb⟩; refine ⟨_, rfl, ?_⟩; have G4 := a_ (Kd.bE (Kd.bq ho0 (Kd.df (ra_ HO_7.out))) (ai bX)); replace HO_7 := a_ (Kd.bC (ra_ HO_7.out) (Kd.aH ho0) hb); replace HB := cK bX hb; (try clear hb); (try clear ho0)))
      go_roundg k2
      case measure => have := HK1.out; have := HK2.out; omega
      case rel => exact ⟨(G3), (wrap64 (A1 + 1)), cz, H', ⟨jW⟩, ⟨by (with_reducible repeat (first | apply Kd.aC | apply Kd.aA | apply Kd.ay)); exact Kd.ae G4.out (fun _ hk => trivial)⟩, ⟨bX⟩⟩
     rw [if_neg c18] at H
     have F3 := decide_eq_false c18
     clear c18
     replace H := ig_ H; obtain ⟨c37, H⟩ := H
     have J4 := decide_eq_true c37
     have J5 : decide (0 < A4.length) = true := decide_eq_true (by omega)
     clear c37
     replace H := ig_ H; obtain ⟨c38, H⟩ := H
     have J6 := decide_eq_true c38
     have J7 : decide (0 < (bI A4 0).length) = true := decide_eq_true (by omega)
     clear c38
     obtain rfl := Option.some.inj H
     obtain ⟨L3, L4, I5⟩ := Kd.bg HO_7.out
     subst I5
     have D3 : 0 ≤ (0 : Int) := (by omega)
     have D4 : 0 < (A4.length : Int) := of_decide_eq_true aX
     obtain ⟨J8, I6, I7, I8, A8, B3, B4⟩ := kF (Kd.aI HO_7.out).2.2 0 D3 D4
     cases I8
     obtain ⟨ce168, hce168, hMe168, hcc168⟩ := Kd.wM HO_7.out [] 0 D3 (by first | exact D4 | exact of_decide_eq_true aX | (have e_ := (Kd.aI HO_7.out).1; omega))
     obtain ⟨ve168_0, rfl, ge168_0⟩ := hMe168
     have hv168_0 := hcc168 0 _ rfl
     rw [Nat.add_zero, show ((Kd.slice 61 (Kd.slice 64 k64))).sz = 1 from rfl, Nat.mul_one] at hv168_0
     replace hv168_0 := Option.some.inj (hv168_0.symm.trans A8)
     rw [hv168_0] at ge168_0
     have HL168_0 := a_ (show Kd.R (Kd.slice 64 k64) 61 _ _ _ _ (bI A4 0) from ge168_0)
     clear hv168_0 ge168_0
     clear hcc168 hce168
     have qi168 : (0 < A4.length) = True := eq_true (by omega)
     (try rw [show ((0 : Int)).toNat = 0 from rfl] at A8)
     (try rw [Addr.add_zero'] at A8)
     have B7 := a_ B4
     have G5 := a_ B3
     clear B4 B3
     replace D3 := eq_true D3
     replace D4 := eq_true D4
     have D5 : 0 ≤ (0 : Int) := (by omega)
     have D6 : 0 < ((bI A4 0).length : Int) := of_decide_eq_true aX
     obtain ⟨J9, I9, J0, J1, A9, C0, C1⟩ := kV (by repeat (first | (with_reducible exact B7.out) | (with_reducible refine Kd.dD ?_ _) | (with_reducible refine Kd.dH ?_ _) | (with_reducible refine Kd.dZ ?_) | exact B7.out)) 0 D5 D6
     cases J1
     obtain ⟨ce169, hce169, hMe169, hcc169⟩ := Kd.wM HL168_0.out [] 0 D5 (by first | exact D6 | exact of_decide_eq_true aX | (have e_ := (Kd.aI HL168_0.out).1; omega))
     obtain ⟨ve169_0, rfl, ge169_0⟩ := hMe169
     have hv169_0 := hcc169 0 _ rfl
     rw [Nat.add_zero, show ((Kd.slice 64 k64)).sz = 1 from rfl, Nat.mul_one] at hv169_0
     replace hv169_0 := Option.some.inj (hv169_0.symm.trans A9)
     rw [hv169_0] at ge169_0
     have HL169_0 := a_ (show Kd.R k64 64 _ _ _ _ (ek (bI A4 0) 0) from ge169_0)
     clear hv169_0 ge169_0
     clear hcc169 hce169
     have qi169 : (0 < (bI A4 0).length) = True := eq_true (by omega)
     (try rw [show ((0 : Int)).toNat = 0 from rfl] at A9)
     (try rw [Addr.add_zero'] at A9)
     have G6 := a_ C1
     have G7 := a_ C0
     clear C1 C0
     replace D5 := eq_true D5
     replace D6 := eq_true D6
     go_wp2
     go_ret
     exact ⟨_, gy, by (with_reducible repeat (first | apply Kd.aC | apply Kd.aA | apply Kd.ay)); exact Kd.ae HL169_0.out (fun _ hk => trivial), bX⟩
def gu.f (a0_0 : Int) (a0_1 : Int) (a0_2 : Bool) (a0_3 : Bool) : Option (Bool) := some (a0_2 != a0_3)
theorem gu.calls (a0_0 : Int) (a0_1 : Int) (a0_2 : Bool) (a0_3 : Bool) (r : Bool) (w : World) (h : gu.f a0_0 a0_1 a0_2 a0_3 = some r) :
  Calls Tryz.prog 45 #[.agg #[.int .i64 a0_0, .int .i64 a0_1, .bool a0_2, .bool a0_3]] w fun e w' => e = .returned (.bool r) ∧ Below w.heap.size w w' := by
 have hu64 := Tryz.underlying64
 have HB := a_ (Below.refl w.heap.size w)
 have H : (some (a0_2 != a0_3)) = some r := h
 clear h
 obtain rfl := Option.some.inj H
 go_enter Tryz.func45, Tryz.ntmps45
 go_wp2_with (first | ((with_reducible refine bn (N := 1) rfl ?_); refine bG ?hg (N := 1) ?hd (cs := #[.int .i64 a0_0, .int .i64 a0_1, .bool a0_2, .bool a0_3]) (t := 64) ?hr ?_; (case hd => rfl); (case hg => rfl); (case hr => first | (go_simp; done) | (go_simp; rfl)); intro A1 hg w2 hbox hb; have A2 := a_ (hbox); have B4 := a_ ((fO : w.heap.size ≤ A1)); have A3 := a_ ((fO : w.heap.size ≤ A1)); replace HB := cK bX hb; clear hb hbox hg; obtain ⟨A4, A5, A6, A7, A8, A9, B0, B3⟩ := rq (w := w2) A2.out))
 go_ret
 exact ⟨gy, by repeat (first | (with_reducible first | exact HB.out | apply aN | apply aD | apply aM | refine aG ?_ A3.out) | exact HB.out)⟩
def eT.f (a0 : Int) (a1 : Int) (a2 : Int) : Option (Int) := some (wrap64 ((wrap64 (a2 * a0)) + a1))
theorem eT.calls (a0 : Int) (a1 : Int) (a2 : Int) (r : Int) (w : World) (h : eT.f a0 a1 a2 = some r) :
  Calls Tryz.prog 46 #[.int .i64 a0, .int .i64 a1, .int .i64 a2] w fun e w' => e = .returned (.int .i64 r) ∧ fJ w w' := by
 have H : (some (wrap64 ((wrap64 (a2 * a0)) + a1))) = some r := h
 clear h
 obtain rfl := Option.some.inj H
 go_enter Tryz.func46, Tryz.ntmps46
 go_wp2
 go_ret
 exact ⟨gT, fI⟩
def fM.f (a0 : Int) (a1 : Int) (a2 : Int) : Option (Int) := some (wrap64 ((wrap64 ((wrap64 ((wrap64 (a2 * a0)) + a0)) - 1)) - a1))
theorem fM.calls (a0 : Int) (a1 : Int) (a2 : Int) (r : Int) (w : World) (h : fM.f a0 a1 a2 = some r) :
  Calls Tryz.prog 47 #[.int .i64 a0, .int .i64 a1, .int .i64 a2] w fun e w' => e = .returned (.int .i64 r) ∧ fJ w w' := by
 have H : (some (wrap64 ((wrap64 ((wrap64 ((wrap64 (a2 * a0)) + a0)) - 1)) - a1))) = some r := h
 clear h
 obtain rfl := Option.some.inj H
 go_enter Tryz.func47, Tryz.ntmps47
 go_wp2
 go_ret
 exact ⟨gT, fI⟩
def iL.f (a0 : Bool) : Option (Int) := if a0 = true then (some 1) else (some 0)
theorem iL.calls (a0 : Bool) (r : Int) (w : World) (h : iL.f a0 = some r) :
  Calls Tryz.prog 48 #[.bool a0] w fun e w' => e = .returned (.int .i64 r) ∧ fJ w w' := by
 have H : (if a0 = true then (some 1) else (some 0)) = some r := h
 clear h
 by_cases c2 : a0 = true
 ·subst c2
  have H1 : (some 1) = some r := by rw [if_pos rfl] at H; exact H
  clear H
  have H := H1
  clear H1
  obtain rfl := Option.some.inj H
  go_enter Tryz.func48, Tryz.ntmps48
  go_wp2
  go_ret
  exact ⟨gT, fI⟩
 ·replace c2 := Bool.eq_false_iff.mpr c2
  subst c2
  have H1 : (some 0) = some r := by rw [if_neg (show ¬ (false = true) by decide)] at H; exact H
  clear H
  have H := H1
  clear H1
  obtain rfl := Option.some.inj H
  go_enter Tryz.func48, Tryz.ntmps48
  go_wp2
  go_ret
  exact ⟨gT, fI⟩
end Go.Proofs.YtkpidjmhdagkfaaGreatDoor.QFnImposed
