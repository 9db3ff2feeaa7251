-- Written by own_print.py of this session's repo over the kit's print (its output, turned at some places).
import Derived.Test.YtkpidjmhdagkfaaGreatDoorProg
import Derived.Below
import Derived.Deep.Draws
import Derived.Deep.AppendLies
import Derived.Maps.AppendAt
import Derived.OwnWalk
import Derived.Laws.BytesArg
import Derived.Laws.MakeOwn
import Derived.Laws.OwnMore
import Derived.Deep.OwnRows
import Derived.Tactics
import Derived.Lib.ConvBytes
import Derived.Laws.Slices
import Derived.WalkKit
import Derived.KernelRfl
import Derived.RowKit3
import Derived.Deep.LoopGhost
import Derived.Deep.QuietTactic
import Derived.BigQuiet
import Derived.WideLaws
import Derived.Deep.DeepCutAuto
import Derived.Deep.CutBlock
import Derived.Deep.RegionHeld3
import Derived.Laws.Rows
import Derived.Lib.AppendStr
import Derived.ArgAppend
import Derived.Laws.IdiomCopy
import Derived.OrdersHeld
import Derived.Laws.BitsLemmas
import Derived.RowKit
import Derived.Shelf.SlIterI.Sorted
import Derived.Shelf.SortM.Plain
import Derived.Shelf.SortM.SortNone
import Derived.Ground.GgzProg
import Derived.Ground.SlgmProg
import Derived.RangeFuncBox
import Derived.RangeFuncLeaves
import Derived.Shelf.Abstract
import Derived.OwnWalkIn
import Derived.TacticsInMore
import Derived.LoopNIn
import Derived.LoopIn
import Derived.Deep.Slices
import Derived.Shelf.Spec.SlicesGrow
import Derived.Shelf.Strings.SlTrimAscii
import Derived.Shelf.Strings.Count
import Derived.Lib.Builder
import Derived.Lib.SliceRun
import Derived.Test.YtkpidjmhdagkfaaGreatDoorWWords
import Derived.Test.YtkpidjmhdagkfaaGreatDoorWLast
import Derived.Test.YtkpidjmhdagkfaaGreatDoorWTab
import Derived.Test.YtkpidjmhdagkfaaGreatDoorWFour
import Derived.Test.YtkpidjmhdagkfaaGreatDoorWQPut
import Derived.Test.YtkpidjmhdagkfaaGreatDoorWApart
import Derived.Test.YtkpidjmhdagkfaaGreatDoorWArr
import Derived.Test.YtkpidjmhdagkfaaGreatDoorWZeros
import Derived.Test.YtkpidjmhdagkfaaGreatDoorWFoot
import Derived.Test.YtkpidjmhdagkfaaGreatDoorWKept
import Derived.Test.YtkpidjmhdagkfaaGreatDoorWShare
import Derived.Test.YtkpidjmhdagkfaaGreatDoorWN
import Derived.Test.YtkpidjmhdagkfaaGreatDoorWFootNe
import Derived.Test.YtkpidjmhdagkfaaGreatDoorWAt
import Derived.Test.YtkpidjmhdagkfaaGreatDoorWEqStruct
import Derived.Test.YtkpidjmhdagkfaaGreatDoorWRepsOne
import Derived.Test.YtkpidjmhdagkfaaGreatDoorWInv
import Derived.Test.YtkpidjmhdagkfaaGreatDoorWInvWords
import Derived.Test.YtkpidjmhdagkfaaGreatDoorWGuard
import Derived.Test.YtkpidjmhdagkfaaGreatDoorWNEv
import Derived.Test.YtkpidjmhdagkfaaGreatDoorWMore
namespace Go.Proofs.YtkpidjmhdagkfaaGreatDoor.QFnImposed
open Go.RowKit Go.Proofs.YtkpidjmhdagkfaaGreatDoorW.PrintWords Go.Proofs.YtkpidjmhdagkfaaGreatDoorW.PrintLast Go.Proofs.YtkpidjmhdagkfaaGreatDoorW.PrintMore
attribute [local go_sem] fU fT gP gQ fw fA fQ fV
set_option linter.unusedVariables false
set_option linter.unusedSimpArgs false
def Cb : Option Int → Value
  | none => .nilIface
  | some c => .iface 0 (.int .i64 c)
theorem gM : Cb none = .nilIface := rfl
theorem gN (c : Int) : Cb (some c) = .iface 0 (.int .i64 c) := rfl
theorem jQ : (Tryz.prog.info? 2).map (fun i => (i.zero, i.size, i.bytes)) = some (some (.int .i64 0), 1, 8) := by kernel_rfl
theorem info5 : (Tryz.prog.info? 5).map (fun i => (i.zero, i.size, i.bytes)) = some (some (.int .u8 0), 1, 1) := by kernel_rfl
theorem Cw : (Tryz.prog.info? 22).map (fun i => (i.zero, i.size, i.bytes)) = some (some (.slice none 0 0), 1, 24) := by kernel_rfl
theorem nL : (Tryz.prog.info? 61).map (fun i => (i.zero, i.size, i.bytes)) = some (some (.slice none 0 0), 1, 24) := by kernel_rfl
theorem lQ : (Tryz.prog.info? 64).map (fun i => (i.zero, i.size, i.bytes)) = some (some (.agg #[(.int .i64 0), (.int .i64 0), (.bool false), (.bool false)]), 4, 24) := by kernel_rfl
theorem pg : (Tryz.prog.info? 96).map (fun i => (i.zero, i.size, i.bytes)) = some (some (.slice none 0 0), 1, 24) := by kernel_rfl
-- the values' own types
def lL (xs : List (List Int)) (i : Int) : (List Int) := xs.getD i.toNat ([] : List Int)
theorem Ai {w : World} {A : Option Addr} {n : Nat} {xs : List (List Int)} (h : Kd.C (Kd.slice 2 (Kd.int .i64)) w A n xs) (i : Int) (h0 : 0 ≤ i) (h1 : i < n) : ∃ ad A0 c0, A = some ad ∧ w.cell? (ad.add i.toNat) = some (.slice A0 (lL xs i).length c0) ∧ (lL xs i).length ≤ c0 ∧ (Kd.int .i64).C w A0 (lL xs i).length (lL xs i) := by
  obtain ⟨ad, c, e, _, hK, hc0⟩ := Kd.sG h ([] : List Int) i h0 h1
  have hc : ∀ j u, c[j]? = some u → w.cell? (ad.add (i.toNat * 1 + j)) = some u := hc0
  obtain ⟨A0, c0, rfl, l0, g0⟩ := hK
  exact ⟨ad, A0, c0, e, by have hq := hc 0 _ rfl; rwa [Nat.mul_one, Nat.add_zero] at hq, l0, g0⟩
structure S64 where
  f0 : Int
  f1 : Int
  f2 : Bool
  f3 : Bool
def z64 : S64 := ⟨(0 : Int), (0 : Int), false, false⟩
def k64 : Kd S64 := Kd.iso (Kd.pair (Kd.int .i64) (Kd.pair (Kd.int .i64) (Kd.pair Kd.bool Kd.bool))) (fun x : S64 => (x.f0, x.f1, x.f2, x.f3))
theorem BS : Kd.Heap k64 := Kd.yu _ (Kd.pu (Kd.iR .i64) (Kd.pu (Kd.iR .i64) (Kd.pu Kd.su Kd.su)))
theorem yB {w : World} {x : S64} {cs : List Value} (h : k64.K w x cs) : cs = [.int .i64 x.f0, .int .i64 x.f1, .bool x.f2, .bool x.f3] := by
  obtain ⟨_, _, rfl, rfl, ⟨_, _, rfl, rfl, ⟨_, _, rfl, rfl, rfl⟩⟩⟩ := h
  exact rfl
theorem BA {w : World} {base : Nat} {ok : Nat → Prop} {x : S64} {cs : List Value} (h : k64.M w base ok x cs) : cs = [.int .i64 x.f0, .int .i64 x.f1, .bool x.f2, .bool x.f3] := by
  obtain ⟨_, _, rfl, rfl, ⟨_, _, rfl, rfl, ⟨_, _, rfl, rfl, rfl⟩⟩⟩ := h
  exact rfl
theorem AR (w : World) (x : S64)  : k64.K w x [.int .i64 x.f0, .int .i64 x.f1, .bool x.f2, .bool x.f3] := ⟨[.int .i64 x.f0], [.int .i64 x.f1, .bool x.f2, .bool x.f3], rfl, rfl, ⟨[.int .i64 x.f1], [.bool x.f2, .bool x.f3], rfl, rfl, ⟨[.bool x.f2], [.bool x.f3], rfl, rfl, rfl⟩⟩⟩
theorem mZ (w : World) (base : Nat) (ok : Nat → Prop) (x : S64)  : k64.M w base ok x [.int .i64 x.f0, .int .i64 x.f1, .bool x.f2, .bool x.f3] := ⟨[.int .i64 x.f0], [.int .i64 x.f1, .bool x.f2, .bool x.f3], rfl, rfl, ⟨[.int .i64 x.f1], [.bool x.f2, .bool x.f3], rfl, rfl, ⟨[.bool x.f2], [.bool x.f3], rfl, rfl, rfl⟩⟩⟩
theorem Ch (W : World) (ok : Nat → Prop) (x : S64) : Kd.FK k64 W ok x [.int .i64 x.f0, .int .i64 x.f1, .bool x.f2, .bool x.f3] := fun W2 _ => AR W2 x
def ag (xs : List S64) (i : Int) : S64 := xs.getD i.toNat z64
theorem qP {w : World} {A : Option Addr} {n : Nat} {xs : List S64} (h : Kd.C k64 w A n xs) (i : Int) (h0 : 0 ≤ i) (h1 : i < n) : ∃ ad , A = some ad ∧ w.cell? (ad.add (i.toNat * 4)) = some (.int .i64 (ag xs i).f0) ∧ w.cell? ⟨(ad.add (i.toNat * 4)).block, (ad.add (i.toNat * 4)).off + 1, none⟩ = some (.int .i64 (ag xs i).f1) ∧ w.cell? ⟨(ad.add (i.toNat * 4)).block, (ad.add (i.toNat * 4)).off + 2, none⟩ = some (.bool (ag xs i).f2) ∧ w.cell? ⟨(ad.add (i.toNat * 4)).block, (ad.add (i.toNat * 4)).off + 3, none⟩ = some (.bool (ag xs i).f3) := by
  obtain ⟨ad, c, e, _, hK, hc0⟩ := Kd.sG h z64 i h0 h1
  have hc : ∀ j u, c[j]? = some u → w.cell? (ad.add (i.toNat * 4 + j)) = some u := hc0
  obtain rfl := yB hK
  exact ⟨ad, e, hc 0 _ rfl, by rw [← oP _ _ 1 (by omega)]; exact hc 1 _ rfl, by rw [← oP _ _ 2 (by omega)]; exact hc 2 _ rfl, by rw [← oP _ _ 3 (by omega)]; exact hc 3 _ rfl⟩
def ek (xs : List (List S64)) (i : Int) : (List S64) := xs.getD i.toNat ([] : List S64)
theorem kV {w : World} {A : Option Addr} {n : Nat} {xs : List (List S64)} (h : Kd.C (Kd.slice 64 k64) w A n xs) (i : Int) (h0 : 0 ≤ i) (h1 : i < n) : ∃ ad A0 c0, A = some ad ∧ w.cell? (ad.add i.toNat) = some (.slice A0 (ek xs i).length c0) ∧ (ek xs i).length ≤ c0 ∧ k64.C w A0 (ek xs i).length (ek xs i) := by
  obtain ⟨ad, c, e, _, hK, hc0⟩ := Kd.sG h ([] : List S64) i h0 h1
  have hc : ∀ j u, c[j]? = some u → w.cell? (ad.add (i.toNat * 1 + j)) = some u := hc0
  obtain ⟨A0, c0, rfl, l0, g0⟩ := hK
  exact ⟨ad, A0, c0, e, by have hq := hc 0 _ rfl; rwa [Nat.mul_one, Nat.add_zero] at hq, l0, g0⟩
def bI (xs : List (List (List S64))) (i : Int) : (List (List S64)) := xs.getD i.toNat ([] : List (List S64))
theorem kF {w : World} {A : Option Addr} {n : Nat} {xs : List (List (List S64))} (h : Kd.C (Kd.slice 61 (Kd.slice 64 k64)) w A n xs) (i : Int) (h0 : 0 ≤ i) (h1 : i < n) : ∃ ad A0 c0, A = some ad ∧ w.cell? (ad.add i.toNat) = some (.slice A0 (bI xs i).length c0) ∧ (bI xs i).length ≤ c0 ∧ (Kd.slice 64 k64).C w A0 (bI xs i).length (bI xs i) := by
  obtain ⟨ad, c, e, _, hK, hc0⟩ := Kd.sG h ([] : List (List S64)) i h0 h1
  have hc : ∀ j u, c[j]? = some u → w.cell? (ad.add (i.toNat * 1 + j)) = some u := hc0
  obtain ⟨A0, c0, rfl, l0, g0⟩ := hK
  exact ⟨ad, A0, c0, e, by have hq := hc 0 _ rfl; rwa [Nat.mul_one, Nat.add_zero] at hq, l0, g0⟩
abbrev nb_ (k : Nat) (a : Option Addr) (n c : Nat) : Prop := some k ≠ (Value.slice a n c).ownBlock
theorem ra_ {P Q : Prop} (h : P) (k : P → Q := by (intro h_; (with_reducible repeat (first | apply Kd.aC | apply Kd.aA | apply Kd.ay)); exact h_)) : Q := k h
theorem rc_ {P Q : Prop} (k : P → Q := by (intro h_; (with_reducible repeat (first | apply Kd.aC | apply Kd.aA | apply Kd.ay)); exact h_)) (h : P) : Q := k h
theorem gB {P Q : Prop} (k : P → Q := by (intro h_; (with_reducible repeat (first | refine bO ?_ _ | refine bv ?_ | refine bN ?_ _)); exact h_)) (h : P) : Q := k h
theorem kc_ {P Q : Prop} (h : P) (k : P → Q := by (intro h_; repeat (first | exact h_ | (with_reducible refine Kd.dD ?_ _) | (with_reducible refine Kd.dH ?_ _) | (with_reducible refine Kd.dZ ?_)))) : Q := k h
theorem rb_ {P Q : Prop} (h : P) (k : P → Q := by (intro h_; (with_reducible repeat (first | refine bO ?_ _ | refine bv ?_ | refine bN ?_ _)); exact h_)) : Q := k h
theorem rh_ {P Q R : Prop} (e_ : R) (H : P) (k : R → P → Q := by (intro he_ H; first | (rw [he_]; with_reducible exact H) | (have H2_ := (Option.bind_some _ _).symm.trans H; rw [he_]; with_reducible exact H2_) | (have H2_ := (Option.bind_some _ _).symm.trans H; with_reducible exact H2_) | with_reducible exact H | (rw [he_]; exact H) | exact H)) : Q := k e_ H
theorem nm_ {P : Program} {ops : Array Oper} {Q : Exit → Act → World → Prop} {md : Region.Mode} {S : World → Prop} {ds : List Nat} {fuel : Nat} {l : Array Bool} {a a' : Act} {w : World} (h : cZ P md ops Q S ds fuel l a' w) (ha : a = a' := by (show Act.put _ (some _) _ = _; simp only [Act.put, List.setIfInBounds_toArray, List.set_cons_zero, List.set_cons_succ, eX, iI]; rfl)) : cZ P md ops Q S ds fuel l a w := BD ha h
def BL : Nat → Nat → List Bool
  | 0, _ => []
  | n + 1, k => Nat.beq (k % 2) 1 :: BL n (k / 2)
def bs_ (n k : Nat) : Array Bool := ⟨BL n k⟩
theorem a_ {P : Prop} (h : P) : af P := af.mk h
theorem rq {w : World} {g : Nat} {t : TypeId} {v0 v1 v2 v3 : Value} (h : w.heap[g]? = some (.cells #[v0, v1, v2, v3] t (0, 0))) : w.cell? ⟨g, 0, none⟩ = some v0 ∧ w.cell? ⟨g, 1, none⟩ = some v1 ∧ w.cell? ⟨g, 2, none⟩ = some v2 ∧ w.cell? ⟨g, 3, none⟩ = some v3 ∧ w.frozen? ⟨g, 0, none⟩ = false ∧ w.frozen? ⟨g, 1, none⟩ = false ∧ w.frozen? ⟨g, 2, none⟩ = false ∧ w.frozen? ⟨g, 3, none⟩ = false := ⟨(aa h 0).trans rfl, (aa h 1).trans rfl, (aa h 2).trans rfl, (aa h 3).trans rfl, bi h 0, bi h 1, bi h 2, bi h 3⟩
theorem eU {w : World} {g : Nat} {t : TypeId} {v0 v1 v2 v3 v4 : Value} (h : w.heap[g]? = some (.cells #[v0, v1, v2, v3, v4] t (0, 0))) : w.cell? ⟨g, 0, none⟩ = some v0 ∧ w.cell? ⟨g, 1, none⟩ = some v1 ∧ w.cell? ⟨g, 2, none⟩ = some v2 ∧ w.cell? ⟨g, 3, none⟩ = some v3 ∧ w.cell? ⟨g, 4, none⟩ = some v4 ∧ w.frozen? ⟨g, 0, none⟩ = false ∧ w.frozen? ⟨g, 1, none⟩ = false ∧ w.frozen? ⟨g, 2, none⟩ = false ∧ w.frozen? ⟨g, 3, none⟩ = false ∧ w.frozen? ⟨g, 4, none⟩ = false := ⟨(aa h 0).trans rfl, (aa h 1).trans rfl, (aa h 2).trans rfl, (aa h 3).trans rfl, (aa h 4).trans rfl, bi h 0, bi h 1, bi h 2, bi h 3, bi h 4⟩
theorem ui {α : Type} {d : Kd α} {e : TypeId} {w : World} {base : Nat} {ok : Nat → Prop} {v : Value} {xs : List α} {g t : Nat} {cells : Array Value} {v0 v1 v2 v3 : Value} (h : d.R e w base ok v xs) (hb : w.heap[g]? = some (.cells cells t (0, 0))) (ht : ∀ q, q ∈ e :: d.E → q ≠ t := by decide) : d.R e ((((w.setCell ⟨g, 0, none⟩ v0).setCell ⟨g, 1, none⟩ v1).setCell ⟨g, 2, none⟩ v2).setCell ⟨g, 3, none⟩ v3) base (fun k => ok k ∧ k ≠ g) v xs := Kd.dW (p := ⟨g, 3, none⟩) (Kd.dW (p := ⟨g, 2, none⟩) (Kd.dW (p := ⟨g, 1, none⟩) (Kd.dW (p := ⟨g, 0, none⟩) (Kd.dR h hb ht) (fun _ hk => hk.2) v0) (fun _ hk => hk.2) v1) (fun _ hk => hk.2) v2) (fun _ hk => hk.2) v3
theorem bU {α : Type} {d : Kd α} {e : TypeId} {w : World} {base : Nat} {ok : Nat → Prop} {v : Value} {xs : List α} {g t : Nat} {cells : Array Value} {v0 v1 v2 v3 v4 : Value} (h : d.R e w base ok v xs) (hb : w.heap[g]? = some (.cells cells t (0, 0))) (ht : ∀ q, q ∈ e :: d.E → q ≠ t := by decide) : d.R e (((((w.setCell ⟨g, 0, none⟩ v0).setCell ⟨g, 1, none⟩ v1).setCell ⟨g, 2, none⟩ v2).setCell ⟨g, 3, none⟩ v3).setCell ⟨g, 4, none⟩ v4) base (fun k => ok k ∧ k ≠ g) v xs := Kd.dW (p := ⟨g, 4, none⟩) (Kd.dW (p := ⟨g, 3, none⟩) (Kd.dW (p := ⟨g, 2, none⟩) (Kd.dW (p := ⟨g, 1, none⟩) (Kd.dW (p := ⟨g, 0, none⟩) (Kd.dR h hb ht) (fun _ hk => hk.2) v0) (fun _ hk => hk.2) v1) (fun _ hk => hk.2) v2) (fun _ hk => hk.2) v3) (fun _ hk => hk.2) v4
theorem qR {w : World} {g : Nat} {t : TypeId} {a0 a1 a2 a3 v0 v1 v2 v3 : Value} (h : w.heap[g]? = some (.cells #[a0, a1, a2, a3] t (0, 0))) : (((((w.setCell ⟨g, 0, none⟩ v0).setCell ⟨g, 1, none⟩ v1).setCell ⟨g, 2, none⟩ v2).setCell ⟨g, 3, none⟩ v3)).heap[g]? = some (.cells #[v0, v1, v2, v3] t (0, 0)) := gz (gz (gz (gz (h) 0 v0 rfl) 1 v1 rfl) 2 v2 rfl) 3 v3 rfl
theorem gK {w : World} {g : Nat} {t : TypeId} {a0 a1 a2 a3 a4 v0 v1 v2 v3 v4 : Value} (h : w.heap[g]? = some (.cells #[a0, a1, a2, a3, a4] t (0, 0))) : ((((((w.setCell ⟨g, 0, none⟩ v0).setCell ⟨g, 1, none⟩ v1).setCell ⟨g, 2, none⟩ v2).setCell ⟨g, 3, none⟩ v3).setCell ⟨g, 4, none⟩ v4)).heap[g]? = some (.cells #[v0, v1, v2, v3, v4] t (0, 0)) := gz (gz (gz (gz (gz (h) 0 v0 rfl) 1 v1 rfl) 2 v2 rfl) 3 v3 rfl) 4 v4 rfl
theorem Bd {w : World} {g g' : Nat} {t : TypeId} {cs : Array Value} {o0 : Nat} {v0 : Value} (hn : g ≠ g') (h : w.heap[g]? = some (.cells cs t (0, 0))) : ((w.setCell ⟨g', o0, none⟩ v0)).heap[g]? = some (.cells cs t (0, 0)) := fK (p := ⟨g', o0, none⟩) (h) hn v0
theorem wH {w : World} {g g' : Nat} {t : TypeId} {cs : Array Value} {o0 o1 o2 o3 : Nat} {v0 v1 v2 v3 : Value} (hn : g ≠ g') (h : w.heap[g]? = some (.cells cs t (0, 0))) : (((((w.setCell ⟨g', o0, none⟩ v0).setCell ⟨g', o1, none⟩ v1).setCell ⟨g', o2, none⟩ v2).setCell ⟨g', o3, none⟩ v3)).heap[g]? = some (.cells cs t (0, 0)) := fK (p := ⟨g', o3, none⟩) (fK (p := ⟨g', o2, none⟩) (fK (p := ⟨g', o1, none⟩) (fK (p := ⟨g', o0, none⟩) (h) hn v0) hn v1) hn v2) hn v3
theorem lw {w : World} {g g' : Nat} {t : TypeId} {cs : Array Value} {o0 o1 o2 o3 o4 : Nat} {v0 v1 v2 v3 v4 : Value} (hn : g ≠ g') (h : w.heap[g]? = some (.cells cs t (0, 0))) : ((((((w.setCell ⟨g', o0, none⟩ v0).setCell ⟨g', o1, none⟩ v1).setCell ⟨g', o2, none⟩ v2).setCell ⟨g', o3, none⟩ v3).setCell ⟨g', o4, none⟩ v4)).heap[g]? = some (.cells cs t (0, 0)) := fK (p := ⟨g', o4, none⟩) (fK (p := ⟨g', o3, none⟩) (fK (p := ⟨g', o2, none⟩) (fK (p := ⟨g', o1, none⟩) (fK (p := ⟨g', o0, none⟩) (h) hn v0) hn v1) hn v2) hn v3) hn v4
theorem gT {P : Prop} (h : P := by first | rfl | (simp only [Go.IntWalk.i64_left]; first | done | rfl) | (simp; done) | (simp [*]; done)) : P := h
theorem fI {P : Prop} (h : P := by (repeat (first | exact fJ.refl _ | apply fJ.step)); first | done | fail) : P := h
theorem dN {P : Prop} (h : P := by (try simp only [List.map_toArray, List.map_cons, List.map_nil]); first | done | rfl | (simp only [List.length_drop, List.length_take]; rfl)) : P := h
theorem cz {P : Prop} (h : P := by first | rfl | (simp; done) | (simp [*]; done)) : P := h
theorem bX {P : Prop} (h : P := by (repeat (first | (with_reducible first | exact HB.out | apply aN | apply aD | apply aM) | exact HB.out)); first | done | fail) : P := h
theorem aX {P : Prop} (h : P := by first | (with_reducible assumption) | assumption) : P := h
theorem kW {P : Prop} (h : P := by have := HK1.out; omega) : P := h
theorem jW {P : Prop} (h : P := by have := HK1.out; have := HK2.out; omega) : P := h
theorem gy {P : Prop} (h : P := by first | rfl | (simp only [Go.IntWalk.i64_left]; first | done | rfl) | (simp [gM, gN] <;> rfl) | (simp [*, gM, gN] <;> rfl)) : P := h
theorem qO {P : Prop} (h : P := by (with_reducible repeat (first | apply Kd.mQ | apply Kd.nu | apply Kd.oL)); exact HO0_2.out) : P := h
theorem qY {P : Prop} (h : P := by (with_reducible repeat (first | apply Kd.mQ | apply Kd.nu | apply Kd.oL)); exact HO0_3.out) : P := h
theorem fO {P : Prop} (h : P := by rw [hg]; exact (ai (by repeat (first | (with_reducible first | exact HB.out | apply aN | apply aD | apply aM) | exact HB.out)))) : P := h
theorem zR {P : Prop} (h : P := by (repeat (first | exact (Kd.jm HO0_2.out).2.2 | (with_reducible refine Kd.dD ?_ _) | (with_reducible refine Kd.dH ?_ _) | (with_reducible refine Kd.dZ ?_))); first | done | fail) : P := h
theorem AZ {P : Prop} (h : P := by (repeat (first | exact (Kd.jm HO0_3.out).2.2 | (with_reducible refine Kd.dD ?_ _) | (with_reducible refine Kd.dH ?_ _) | (with_reducible refine Kd.dZ ?_))); first | done | fail) : P := h
theorem z0_ {P : Prop} (h : P := by (repeat (first | exact (Kd.bT HR0_4.out (by repeat (first | (with_reducible first | exact HB.out | apply aN | apply aD | apply aM | refine aG ?_ GE111.out) | exact HB.out))) | (with_reducible refine Kd.dD ?_ _) | (with_reducible refine Kd.dH ?_ _) | (with_reducible refine Kd.dZ ?_))); first | done | fail) : P := h
theorem lm {P : Prop} (h : P := by (repeat (first | (with_reducible first | exact HB.out | apply aN | apply aD | apply aM | refine aG ?_ GE111.out) | exact HB.out)); first | done | fail) : P := h
theorem kr {P : Prop} (h : P := by first | omega | exact Nat.le_refl _) : P := h
theorem xz {P : Prop} (h : P := by (with_reducible repeat (first | refine bO ?_ _ | refine bv ?_ | refine bN ?_ _)); exact BK111.out) : P := h
theorem z8 {P : Prop} (h : P := by (with_reducible repeat (first | apply Kd.mQ | apply Kd.nu | apply Kd.oL)); exact HO_112002.out) : P := h
theorem zB {P : Prop} (h : P := by (with_reducible repeat (first | apply Kd.mQ | apply Kd.nu | apply Kd.oL)); exact HO_112003.out) : P := h
theorem oI {P : Prop} (h : P := by (repeat (first | (with_reducible first | exact HB.out | apply aN | apply aD | apply aM | refine aG ?_ GE130.out) | exact HB.out)); first | done | fail) : P := h
theorem wQ {P : Prop} (h : P := by (try simp only [List.map_toArray, List.map_cons, List.map_nil]); first | done | rfl) : P := h
theorem xI {P : Prop} (h : P := by (repeat (first | exact (Kd.aI HO_7.out).2.2 | (with_reducible refine Kd.dD ?_ _) | (with_reducible refine Kd.dH ?_ _) | (with_reducible refine Kd.dZ ?_))); first | done | fail) : P := h
theorem mH {P : Prop} (h : P := by (repeat (first | (with_reducible first | exact HB.out | apply aN | apply aD | apply aM | refine aG ?_ GE171.out) | exact HB.out)); first | done | fail) : P := h
theorem xS {P : Prop} (h : P := by (with_reducible repeat (first | refine bO ?_ _ | refine bv ?_ | refine bN ?_ _)); exact BK171.out) : P := h
theorem xN {P : Prop} (h : P := by rw [hg]; exact (ai (by repeat (first | (with_reducible first | exact HB.out | apply aN | apply aD | apply aM | refine aG ?_ GE171.out) | exact HB.out)))) : P := h
theorem lW {P : Prop} (h : P := by have := World.block_lt_of_cell? _ _ hx181_0; first | rwa [add_block] at this | exact this) : P := h
theorem Bi {P : Prop} (h : P := by first | (rw [add_block]; exact hn181_0) | (show (Addr.add _ _).block ≠ _; rw [add_block]; exact hn181_0) | exact hn181_0) : P := h
theorem Bn {P : Prop} (h : P := by first | (rw [add_block]; exact hn181_1) | (show (Addr.add _ _).block ≠ _; rw [add_block]; exact hn181_1) | exact hn181_1) : P := h
theorem Ar {P : Prop} (h : P := by first | (rw [add_block]; exact hn181_2) | (show (Addr.add _ _).block ≠ _; rw [add_block]; exact hn181_2) | exact hn181_2) : P := h
theorem Bj {P : Prop} (h : P := by first | (rw [add_block]; exact hn181_3) | (show (Addr.add _ _).block ≠ _; rw [add_block]; exact hn181_3) | exact hn181_3) : P := h
theorem lY {P : Prop} (h : P := by have := World.block_lt_of_cell? _ _ hx183_0; first | rwa [add_block] at this | exact this) : P := h
theorem AB {P : Prop} (h : P := by first | (rw [add_block]; exact hn183_0) | (show (Addr.add _ _).block ≠ _; rw [add_block]; exact hn183_0) | exact hn183_0) : P := h
theorem AO {P : Prop} (h : P := by first | (rw [add_block]; exact hn183_1) | (show (Addr.add _ _).block ≠ _; rw [add_block]; exact hn183_1) | exact hn183_1) : P := h
theorem AJ {P : Prop} (h : P := by first | (rw [add_block]; exact hn183_2) | (show (Addr.add _ _).block ≠ _; rw [add_block]; exact hn183_2) | exact hn183_2) : P := h
theorem Bl {P : Prop} (h : P := by first | (rw [add_block]; exact hn183_3) | (show (Addr.add _ _).block ≠ _; rw [add_block]; exact hn183_3) | exact hn183_3) : P := h
theorem lG {P : Prop} (h : P := by (repeat (first | (with_reducible first | exact HB.out | apply aN | apply aD | apply aM | refine aG ?_ GE171.out | refine aG ?_ GE179.out) | exact HB.out)); first | done | fail) : P := h
theorem nC {P : Prop} (h : P := by have := HK1.out; first | omega | exact Nat.le_refl _) : P := h
theorem oo {P : Prop} (h : P := by (with_reducible repeat (first | apply Kd.aC | apply Kd.aA | apply Kd.ay)); exact HO_5.out) : P := h
theorem zt {P : Prop} (h : P := by (with_reducible repeat (first | refine bO ?_ _ | refine bv ?_ | refine bN ?_ _)); exact BK179.out) : P := h
theorem vH {P : Prop} (h : P := by (repeat (first | (with_reducible first | exact HB.out | apply aN | apply aD | apply aM | refine aG ?_ GE195.out) | exact HB.out)); first | done | fail) : P := h
theorem yR {P : Prop} (h : P := by (repeat (first | (with_reducible first | exact HB.out | apply aN | apply aD | apply aM | refine aG ?_ GE202.out) | exact HB.out)); first | done | fail) : P := h
theorem eO {P : Prop} (h : P := by (repeat (first | (with_reducible first | exact HI0.out | apply ak.alloc | apply ak.drewN | apply ak.drew | apply ak.ou | apply ak.oC) | exact HI0.out)); first | done | fail) : P := h
theorem gq {P : Prop} (h : P := by (repeat (first | (with_reducible first | exact HB.out | apply aN | apply aD | apply aM | refine aG ?_ (ak.ge HI0.out)) | exact HB.out)); first | done | fail) : P := h
theorem fB {P : Prop} (h : P := by (repeat (first | (with_reducible first | exact HK.out | apply az.tu | apply jo | apply jc | apply jr) | exact HK.out)); first | done | fail) : P := h
theorem AP {P : Prop} (h : P := by first | (rw [add_block]; exact hn205_0) | (show (Addr.add _ _).block ≠ _; rw [add_block]; exact hn205_0) | exact hn205_0) : P := h
theorem Bq {P : Prop} (h : P := by (with_reducible repeat (first | refine bO ?_ _ | refine bv ?_ | refine bN ?_ _)); exact BK257.out) : P := h
theorem zA {P : Prop} (h : P := by (repeat (first | (with_reducible first | exact HB.out | apply aN | apply aD | apply aM | refine aG ?_ GE257.out) | exact HB.out)); first | done | fail) : P := h
theorem zG {P : Prop} (h : P := by (repeat (first | (with_reducible first | exact HBW.out | apply aN | apply aD | apply aM | refine aG ?_ GW257.out) | exact HBW.out)); first | done | fail) : P := h
theorem nM {P : Prop} (h : P := by (repeat (first | (with_reducible first | exact HB.out | apply aN | apply aD | apply aM | refine aG ?_ GE270.out) | exact HB.out)); first | done | fail) : P := h
theorem z3_ {P : Prop} (h : P := by first | exact (dL (g := gb281) (o := .cells #[.int .i64 0, .int .i64 0, .slice none 0 0, .slice none 0 0, .slice none 0 0] 28 (0, 0)) (by (with_reducible repeat (first | refine bO ?_ _ | refine bv ?_ | refine bN ?_ _)); exact (Q_BK281 h0_ h1_)) hb)) : P := h
theorem sV {P : Prop} (h : P := by (repeat (first | (with_reducible first | exact HB.out | apply aN | apply aD | apply aM | refine aG ?_ GE270.out | refine aG ?_ GE281.out) | exact HB.out)); first | done | fail) : P := h
theorem Al {P : Prop} (h : P := by (with_reducible repeat (first | refine bO ?_ _ | refine bv ?_ | refine bN ?_ _)); exact BK270.out) : P := h
theorem AU {P : Prop} (h : P := by (with_reducible repeat (first | refine bO ?_ _ | refine bv ?_ | refine bN ?_ _)); exact BK281.out) : P := h
theorem yc {P : Prop} (h : P := by (repeat (first | (with_reducible first | exact HB.out | apply aN | apply aD | apply aM | refine aG ?_ GE270.out | refine aG ?_ GE281.out | refine aG ?_ GE286.out) | exact HB.out)); first | done | fail) : P := h
theorem iG {P : Prop} (h : P := by rw [e_]; rfl) : P := h
theorem jX {P : Prop} (h : P := by first | exact Kd.sP _ _ _ _ _ | exact Kd.BI _ _ _ _ _ | exact Kd.BB _ _ _ _ _ | exact Kd.BX _ _ _ _ _ | exact Kd.Ca _ _ _ _ _) : P := h
theorem yC {P : Prop} (h : P := by (with_reducible repeat (first | apply Kd.aC | apply Kd.aA | apply Kd.ay)); exact Kd.ae HO_5.out (fun _ hk => hk.2)) : P := h
theorem wS {P : Prop} (h : P := by (with_reducible repeat (first | apply Kd.gX | apply Kd.ik | apply Kd.gZ)); exact HO_8.out) : P := h
theorem zo {P : Prop} (h : P := by (with_reducible repeat (first | apply Kd.aC | apply Kd.aA | apply Kd.ay)); exact Kd.ae HO_6.out (fun _ hk => hk.2)) : P := h
theorem wN {P : Prop} (h : P := by (with_reducible repeat (first | apply Kd.gX | apply Kd.ik | apply Kd.gZ)); exact HO_10.out) : P := h
theorem pU {P : Prop} (h : P := by (repeat (first | (with_reducible first | exact HB.out | apply aN | apply aD | apply aM | refine aG ?_ GE409.out) | exact HB.out)); first | done | fail) : P := h
theorem z4_ {P : Prop} (h : P := by first | exact (dL (g := gb419) (o := .cells #[.int .i64 0, .int .i64 0, .slice none 0 0, .slice none 0 0, .slice none 0 0] 28 (0, 0)) (by (with_reducible repeat (first | refine bO ?_ _ | refine bv ?_ | refine bN ?_ _)); exact (Q_BK419 h0_ h1_)) hb)) : P := h
theorem tQ {P : Prop} (h : P := by (repeat (first | (with_reducible first | exact HB.out | apply aN | apply aD | apply aM | refine aG ?_ GE409.out | refine aG ?_ GE419.out) | exact HB.out)); first | done | fail) : P := h
theorem yH {P : Prop} (h : P := by (with_reducible repeat (first | refine bO ?_ _ | refine bv ?_ | refine bN ?_ _)); exact BK409.out) : P := h
theorem xZ {P : Prop} (h : P := by (with_reducible repeat (first | refine bO ?_ _ | refine bv ?_ | refine bN ?_ _)); exact BK419.out) : P := h
theorem yx {P : Prop} (h : P := by (repeat (first | (with_reducible first | exact HB.out | apply aN | apply aD | apply aM | refine aG ?_ GE409.out | refine aG ?_ GE419.out | refine aG ?_ GE424.out) | exact HB.out)); first | done | fail) : P := h
theorem Bg {P : Prop} (h : P := by (with_reducible repeat (first | apply Kd.aC | apply Kd.aA | apply Kd.ay)); exact HO_420002.out) : P := h
theorem AA {P : Prop} (h : P := by (with_reducible repeat (first | apply Kd.aC | apply Kd.aA | apply Kd.ay)); exact HO_420003.out) : P := h
theorem wT {P : Prop} (h : P := by (with_reducible repeat (first | apply Kd.aC | apply Kd.aA | apply Kd.ay)); exact HO_420004.out) : P := h
theorem uN {P : Prop} (h : P := by (repeat (first | (with_reducible first | exact HB.out | apply aN | apply aD | apply aM | refine aG ?_ GE429.out) | exact HB.out)); first | done | fail) : P := h
theorem zl {P : Prop} (h : P := by rw [hg]; exact (eB (w := w) (g := g) (row := none) (by repeat (first | (with_reducible first | exact HK.out | apply az.tu | apply jo | apply jc | apply jr) | exact HK.out)))) : P := h
theorem ry {P : Prop} (h : P := by (repeat (first | (with_reducible first | exact HI0.out | apply ak.alloc | apply ak.drewN | apply ak.drew | apply ak.ou | apply ak.oC | refine ak.far ?_ NB0_449.out _) | exact HI0.out)); first | done | fail) : P := h
theorem xO {P : Prop} (h : P := by (repeat (first | (with_reducible first | exact HB.out | apply aN | apply aD | apply aM | refine aG ?_ (ak.ge HI0.out) | refine aG ?_ GE449.out) | exact HB.out)); first | done | fail) : P := h
theorem pW {P : Prop} (h : P := by (repeat (first | (with_reducible first | exact HK.out | apply az.tu | apply jo | apply jc | apply jr | refine jd ?_ GW449.out _) | exact HK.out)); first | done | fail) : P := h
theorem zx {P : Prop} (h : P := by rw [hg]; exact (eB (w := w) (g := g) (row := none) (by repeat (first | (with_reducible first | exact HK.out | apply az.tu | apply jo | apply jc | apply jr | refine jd ?_ GW449.out _) | exact HK.out)))) : P := h
theorem z8_ {P : Prop} (h : P := by (repeat (first | (with_reducible first | exact HI0.out | apply ak.alloc | apply ak.drewN | apply ak.drew | apply ak.ou | apply ak.oC | refine ak.far ?_ NB0_449.out _ | refine ak.far ?_ NB0_467.out _) | exact HI0.out)); first | done | fail) : P := h
theorem lu {P : Prop} (h : P := by (repeat (first | (with_reducible first | exact HB.out | apply aN | apply aD | apply aM | refine aG ?_ (ak.ge HI0.out) | refine aG ?_ GE449.out | refine aG ?_ GE467.out) | exact HB.out)); first | done | fail) : P := h
theorem jJ {P : Prop} (h : P := by (repeat (first | (with_reducible first | exact HK.out | apply az.tu | apply jo | apply jc | apply jr | refine jd ?_ GW449.out _ | refine jd ?_ GW467.out _) | exact HK.out)); first | done | fail) : P := h
theorem Ay {P : Prop} (h : P := by (with_reducible repeat (first | refine bO ?_ _ | refine bv ?_ | refine bN ?_ _)); exact BK449.out) : P := h
theorem AL {P : Prop} (h : P := by (with_reducible repeat (first | refine bO ?_ _ | refine bv ?_ | refine bN ?_ _)); exact BK467.out) : P := h
theorem vv {P : Prop} (h : P := by (repeat (first | (with_reducible first | exact HI522.out | apply ak.alloc | apply ak.drewN | apply ak.drew | apply ak.ou | apply ak.oC | refine ak.far ?_ NB522_518.out _) | exact HI522.out)); first | done | fail) : P := h
theorem rG {P : Prop} (h : P := by (repeat (first | (with_reducible first | exact HB.out | apply aN | apply aD | apply aM | refine aG ?_ (ak.ge HI522.out) | refine aG ?_ GE518.out) | exact HB.out)); first | done | fail) : P := h
theorem zu {P : Prop} (h : P := by rw [hg]; exact (ai (by repeat (first | (with_reducible first | exact HB.out | apply aN | apply aD | apply aM | refine aG ?_ (ak.ge HI522.out) | refine aG ?_ GE518.out) | exact HB.out)))) : P := h
theorem z7_ {P : Prop} (h : P := by (repeat (first | (with_reducible first | exact HI522.out | apply ak.alloc | apply ak.drewN | apply ak.drew | apply ak.ou | apply ak.oC | refine ak.far ?_ NB522_518.out _ | refine ak.far ?_ NB522_537.out _) | exact HI522.out)); first | done | fail) : P := h
theorem z9_ {P : Prop} (h : P := by (repeat (first | (with_reducible first | exact HB.out | apply aN | apply aD | apply aM | refine aG ?_ (ak.ge HI522.out) | refine aG ?_ GE518.out | refine aG ?_ GE537.out) | exact HB.out)); first | done | fail) : P := h
theorem xC {P : Prop} (h : P := by rw [hg]; exact (ai (by repeat (first | (with_reducible first | exact HB.out | apply aN | apply aD | apply aM | refine aG ?_ GE557.out) | exact HB.out)))) : P := h
theorem Aq {P : Prop} (h : P := by (repeat (first | (with_reducible first | exact HB.out | apply aN | apply aD | apply aM | refine aG ?_ GE557.out) | exact HB.out)); first | done | fail) : P := h
theorem kg {P : Prop} (h : P := by (repeat (first | (with_reducible first | exact HB.out | apply aN | apply aD | apply aM | refine aG ?_ GE557.out | refine aG ?_ GE558.out) | exact HB.out)); first | done | fail) : P := h
theorem z5_ {P : Prop} (h : P := by first | exact (dL (g := gb570) (o := .cells #[.int .i64 0, .int .i64 0, .slice none 0 0, .slice none 0 0, .slice none 0 0] 28 (0, 0)) (by (with_reducible repeat (first | refine bO ?_ _ | refine bv ?_ | refine bN ?_ _)); exact (Q_BK570 h0_ h1_)) hb)) : P := h
theorem xF {P : Prop} (h : P := by (repeat (first | (with_reducible first | exact HB.out | apply aN | apply aD | apply aM | refine aG ?_ GE557.out | refine aG ?_ GE558.out | refine aG ?_ GE570.out) | exact HB.out)); first | done | fail) : P := h
theorem Au {P : Prop} (h : P := by (repeat (first | (with_reducible first | exact HB.out | apply aN | apply aD | apply aM | refine aG ?_ GE580.out) | exact HB.out)); first | done | fail) : P := h
theorem ma {P : Prop} (h : P := by (repeat (first | (with_reducible first | exact HB.out | apply aN | apply aD | apply aM | refine aG ?_ GE585.out) | exact HB.out)); first | done | fail) : P := h
theorem vW {P : Prop} (h : P := by (with_reducible repeat (first | refine bO ?_ _ | refine bv ?_ | refine bN ?_ _)); exact BK585.out) : P := h
theorem xL {P : Prop} (h : P := by rw [hg]; exact (ai (by repeat (first | (with_reducible first | exact HB.out | apply aN | apply aD | apply aM | refine aG ?_ GE603.out) | exact HB.out)))) : P := h
theorem Bp {P : Prop} (h : P := by (repeat (first | (with_reducible first | exact HB.out | apply aN | apply aD | apply aM | refine aG ?_ GE603.out) | exact HB.out)); first | done | fail) : P := h
theorem lV {P : Prop} (h : P := by (repeat (first | (with_reducible first | exact HB.out | apply aN | apply aD | apply aM | refine aG ?_ GE603.out | refine aG ?_ GE604.out) | exact HB.out)); first | done | fail) : P := h
theorem z6_ {P : Prop} (h : P := by first | exact (dL (g := gb616) (o := .cells #[.int .i64 0, .int .i64 0, .slice none 0 0, .slice none 0 0, .slice none 0 0] 28 (0, 0)) (by (with_reducible repeat (first | refine bO ?_ _ | refine bv ?_ | refine bN ?_ _)); exact (Q_BK616 h0_ h1_)) hb)) : P := h
theorem xx {P : Prop} (h : P := by (repeat (first | (with_reducible first | exact HB.out | apply aN | apply aD | apply aM | refine aG ?_ GE603.out | refine aG ?_ GE604.out | refine aG ?_ GE616.out) | exact HB.out)); first | done | fail) : P := h
theorem rH {P : Prop} (h : P := by rw [hg]; exact (ai (by repeat (first | (with_reducible first | exact HB.out | apply aN | apply aD | apply aM | refine aG ?_ GE620.out) | exact HB.out)))) : P := h
theorem yT {P : Prop} (h : P := by (repeat (first | (with_reducible first | exact HB.out | apply aN | apply aD | apply aM | refine aG ?_ GE620.out) | exact HB.out)); first | done | fail) : P := h
theorem uH {P : Prop} (h : P := by rw [hg]; exact Nat.ne_of_lt (dI (g := gb620) (rb_ BK620.out))) : P := h
theorem uZ {P : Prop} (h : P := by rw [hg]; exact Nat.ne_of_gt (dI (g := gb620) (rb_ BK620.out))) : P := h
theorem qA {P : Prop} (h : P := by (repeat (first | (with_reducible first | exact HB.out | apply aN | apply aD | apply aM | refine aG ?_ GE620.out | refine aG ?_ GE621.out) | exact HB.out)); first | done | fail) : P := h
theorem xw {P : Prop} (h : P := by (repeat (first | (with_reducible first | exact HB.out | apply aN | apply aD | apply aM | refine aG ?_ GE625.out) | exact HB.out)); first | done | fail) : P := h
theorem Bw {P : Prop} (h : P := by (repeat (first | exact HR0.out | (with_reducible refine Kd.dD ?_ _) | (with_reducible refine Kd.dH ?_ _) | (with_reducible refine Kd.dZ ?_))); first | done | fail) : P := h
theorem lZ {P : Prop} (h : P := by (repeat (first | (with_reducible first | exact HB.out | apply aN | apply aD | apply aM | refine aG ?_ GE646.out) | exact HB.out)); first | done | fail) : P := h
theorem zO {P : Prop} (h : P := by rw [hg]; exact (ai (by repeat (first | (with_reducible first | exact HB.out | apply aN | apply aD | apply aM | refine aG ?_ GE646.out) | exact HB.out)))) : P := h
theorem vG {P : Prop} (h : P := by rw [hg]; exact Nat.ne_of_lt (dI (g := gb646) (rb_ BK646.out))) : P := h
theorem vB {P : Prop} (h : P := by rw [hg]; exact Nat.ne_of_gt (dI (g := gb646) (rb_ BK646.out))) : P := h
theorem uY {P : Prop} (h : P := by (repeat (first | (with_reducible first | exact HB.out | apply aN | apply aD | apply aM | refine aG ?_ GE646.out | refine aG ?_ GE659.out) | exact HB.out)); first | done | fail) : P := h
theorem vO {P : Prop} (h : P := by (repeat (first | (with_reducible first | exact HB.out | apply aN | apply aD | apply aM | refine aG ?_ GE646.out | refine aG ?_ GE659.out | refine aG ?_ GE672.out) | exact HB.out)); first | done | fail) : P := h
theorem z2_ {P : Prop} (h : P := by (repeat (first | (with_reducible first | exact HB.out | apply aN | apply aD | apply aM | refine aG ?_ GE646.out | refine aG ?_ GE659.out | refine aG ?_ GE672.out | refine aG ?_ GE685.out) | exact HB.out)); first | done | fail) : P := h
theorem z1_ {P : Prop} (h : P := by (repeat (first | (with_reducible first | exact HB.out | apply aN | apply aD | apply aM | refine aG ?_ GE646.out | refine aG ?_ GE659.out | refine aG ?_ GE672.out | refine aG ?_ GE685.out | refine aG ?_ GE698.out) | exact HB.out)); first | done | fail) : P := h
theorem zn {P : Prop} (h : P := by (with_reducible repeat (first | refine bO ?_ _ | refine bv ?_ | refine bN ?_ _)); exact BK646.out) : P := h
theorem Bv {P : Prop} (h : P := by (repeat (first | exact (Kd.aI HO_647002.out).2.2 | (with_reducible refine Kd.dD ?_ _) | (with_reducible refine Kd.dH ?_ _) | (with_reducible refine Kd.dZ ?_))); first | done | fail) : P := h
theorem Bo {P : Prop} (h : P := by (repeat (first | exact (Kd.aI HO_647003.out).2.2 | (with_reducible refine Kd.dD ?_ _) | (with_reducible refine Kd.dH ?_ _) | (with_reducible refine Kd.dZ ?_))); first | done | fail) : P := h
theorem zH {P : Prop} (h : P := by (repeat (first | exact (Kd.aI HO_647004.out).2.2 | (with_reducible refine Kd.dD ?_ _) | (with_reducible refine Kd.dH ?_ _) | (with_reducible refine Kd.dZ ?_))); first | done | fail) : P := h
theorem pv_ {P : Program} {ops : Array Oper} {Q : Exit → Act → World → Prop} {md : Region.Mode} {S : World → Prop} {ds : List Nat} (i : Nat) (N : Option Tmp) {oi : Oper} {v : Value} {fuel : Nat} {l l' : Array Bool} {a a' : Act} {w : World} (h : cZ P md ops Q S ds fuel l' a' w) (hl : l.setIfInBounds i true = l' := by (simp only [List.setIfInBounds_toArray, List.set_cons_zero, List.set_cons_succ]; rfl)) (hi : ops[i]? = some oi := by exact rfl) (hN : oi.dst = N := by exact rfl) (hc : yg md ops l l' i = true := by exact lU HT_.out (by kernel_rfl)) (hQ : ∀ c a w, Q (.panic c) (a.put oi.dst v) w → Q (.panic c) a w := by exact (fun _ _ _ h => h)) (hy : Yields P ops oi v a := by exact (Or.inl ⟨by rfl, by (intro w'; go_simp; with_reducible rfl)⟩)) (ha : a.put N v = a' := by (simp only [Act.put, List.setIfInBounds_toArray, List.set_cons_zero, List.set_cons_succ, eX, iI]; rfl)) : cZ P md ops Q S ds (fuel + 1) l a w := nU l' hi hN hc hQ hy ha h
theorem on_ {P : Program} {ops : Array Oper} {Q : Exit → Act → World → Prop} {md : Region.Mode} {S : World → Prop} {ds : List Nat} {i : Nat} {N : Option Tmp} {oi : Oper} {fuel : Nat} {l l' : Array Bool} {a : Act} {w : World} (h : ∀ K : Act → World → Prop, Shut (∀ a' w', S w' → (S w' → cZ P md ops Q S ds fuel l' a' w') → K a' w') → if Region.wanted oi (yielded ops a.tmps) = true then Oper.wp P oi a w K Q else K (a.put N undef) w) (hl : l.setIfInBounds i true = l' := by (simp only [List.setIfInBounds_toArray, List.set_cons_zero, List.set_cons_succ]; rfl)) (hi : ops[i]? = some oi := by exact rfl) (hN : oi.dst = N := by exact rfl) (hc : mi md ops l l' i = true := by exact yS HT_.out (by kernel_rfl)) (hd : i ∉ ds := by decide) : cZ P md ops Q S ds (fuel + 1) l a w := CE l' hi hN hc hd h
theorem la_ {P : Program} {ops : Array Oper} {Q : Exit → Act → World → Prop} {md : Region.Mode} {S : World → Prop} {ds : List Nat} {i : Nat} {N : Option Tmp} {oi : Oper} {fuel : Nat} {l l' : Array Bool} {a : Act} {w : World} (h : ∀ K : Act → World → Prop, Shut (∀ a' w', cZ P md ops Q S ds fuel l' a' w' → K a' w') → if Region.wanted oi (yielded ops a.tmps) = true then Oper.wp P oi a w K Q else K (a.put N undef) w) (hl : l.setIfInBounds i true = l' := by (simp only [List.setIfInBounds_toArray, List.set_cons_zero, List.set_cons_succ]; rfl)) (hi : ops[i]? = some oi := by exact rfl) (hN : oi.dst = N := by exact rfl) (hc : mi md ops l l' i = true := by exact yS HT_.out (by kernel_rfl)) (hd : i ∈ ds := by decide) : cZ P md ops Q S ds (fuel + 1) l a w := BJ l' hi hN hc hd h
theorem rl_ {α : Type} {d : Kd α} {e : TypeId} {base : Nat} {ok : Nat → Prop} {v : Value} {xs : List α} {w w' : World} {P : Prop} (h : af P) (hb : Below w.heap.size w w') (k : P → d.R e w base ok v xs := by (intro h_; (with_reducible repeat (first | apply Kd.aC | apply Kd.aA | apply Kd.ay)); exact h_)) : af (d.R e w' base ok v xs) := a_ (Kd.dF (k h.out) hb)
theorem bb_ {w w' : World} {o : Obj} {P : Prop} (g : Nat) (h : af P) (hb : Below w.heap.size w w') (k : P → w.heap[g]? = some o := by (intro h_; (with_reducible repeat (first | refine bO ?_ _ | refine bv ?_ | refine bN ?_ _)); exact h_)) : af (w'.heap[g]? = some o) := a_ (dL (k h.out) hb)
theorem cK {w w1 w2 : World} (h : Below w.heap.size w w1) (hb : Below w1.heap.size w1 w2) : af (Below w.heap.size w w2) := a_ (jg h hb)
theorem ow {P : Program} {ops : Array Oper} {Q : Exit → Act → World → Prop} {md : Region.Mode} {S : World → Prop} {ds : List Nat} {i : Nat} {N : Option Tmp} {oi : Oper} {v : Value} {fuel : Nat} {l l' : Array Bool} {a a' : Act} {w : World} (hS : S w) (h : cZ P md ops Q S ds fuel l' a' w) (hl : l.setIfInBounds i true = l' := by (simp only [List.setIfInBounds_toArray, List.set_cons_zero, List.set_cons_succ]; rfl)) (hi : ops[i]? = some oi := by exact rfl) (hN : oi.dst = N := by exact rfl) (hc : takeB md ops ds l l' i = true := by exact kL HT_.out HW_.out (by kernel_rfl)) (hQ : ∀ c a w, Q (.panic c) (a.put oi.dst v) w → Q (.panic c) a w := by exact (fun _ _ _ h => h)) (hy : YieldsIf P ops S oi v a := by exact (Or.inl ⟨by rfl, by (rintro w' ⟨s0, s1⟩; go_simp; with_reducible rfl)⟩)) (ha : a.put N v = a' := by (simp only [Act.put, List.setIfInBounds_toArray, List.set_cons_zero, List.set_cons_succ, eX, iI]; rfl)) : cZ P md ops Q S ds (fuel + 1) l a w := nH l' hi hN hc hQ hy hS ha h
theorem oq {P : Program} {ops : Array Oper} {Q : Exit → Act → World → Prop} {md : Region.Mode} {S : World → Prop} {ds : List Nat} (i : Nat) (N : Option Tmp) {oi : Oper} {v : Value} {fuel : Nat} {l l' : Array Bool} {a a' : Act} {w : World} (hS : S w) (h : cZ P md ops Q S ds fuel l' a' w) (hl : l.setIfInBounds i true = l' := by (simp only [List.setIfInBounds_toArray, List.set_cons_zero, List.set_cons_succ]; rfl)) (hi : ops[i]? = some oi := by exact rfl) (hN : oi.dst = N := by exact rfl) (hc : takeB md ops ds l l' i = true := by exact kL HT_.out HW_.out (by kernel_rfl)) (hQ : ∀ c a w, Q (.panic c) (a.put oi.dst v) w → Q (.panic c) a w := by exact (fun _ _ _ h => h)) (hy : YieldsIf P ops S oi v a := by exact (Or.inl ⟨by rfl, by (rintro w' ⟨s0, s1, s2, s3⟩; go_simp; with_reducible rfl)⟩)) (ha : a.put N v = a' := by (simp only [Act.put, List.setIfInBounds_toArray, List.set_cons_zero, List.set_cons_succ, eX, iI]; rfl)) : cZ P md ops Q S ds (fuel + 1) l a w := nH l' hi hN hc hQ hy hS ha h
theorem xU {P : Program} {ops : Array Oper} {Q : Exit → Act → World → Prop} {md : Region.Mode} {S : World → Prop} {ds : List Nat} {i : Nat} {N : Option Tmp} {oi : Oper} {v : Value} {fuel : Nat} {l l' : Array Bool} {a a' : Act} {w : World} (hS : S w) (h : cZ P md ops Q S ds fuel l' a' w) (hl : l.setIfInBounds i true = l' := by (simp only [List.setIfInBounds_toArray, List.set_cons_zero, List.set_cons_succ]; rfl)) (hi : ops[i]? = some oi := by exact rfl) (hN : oi.dst = N := by exact rfl) (hc : takeB md ops ds l l' i = true := by exact kL HT_.out HW_.out (by kernel_rfl)) (hQ : ∀ c a w, Q (.panic c) (a.put oi.dst v) w → Q (.panic c) a w := by exact (fun _ _ _ h => h)) (hy : YieldsIf P ops S oi v a := by exact (Or.inl ⟨by rfl, by (rintro w' ⟨s0, s1, s2, s3, s4⟩; go_simp; with_reducible rfl)⟩)) (ha : a.put N v = a' := by (simp only [Act.put, List.setIfInBounds_toArray, List.set_cons_zero, List.set_cons_succ, eX, iI]; rfl)) : cZ P md ops Q S ds (fuel + 1) l a w := nH l' hi hN hc hQ hy hS ha h
theorem um {P : Program} {ops : Array Oper} {Q : Exit → Act → World → Prop} {md : Region.Mode} {S : World → Prop} {ds : List Nat} {i : Nat} {N : Option Tmp} {oi : Oper} {v : Value} {fuel : Nat} {l l' : Array Bool} {a a' : Act} {w : World} (hS : S w) (h : cZ P md ops Q S ds fuel l' a' w) (hl : l.setIfInBounds i true = l' := by (simp only [List.setIfInBounds_toArray, List.set_cons_zero, List.set_cons_succ]; rfl)) (hi : ops[i]? = some oi := by exact rfl) (hN : oi.dst = N := by exact rfl) (hc : takeB md ops ds l l' i = true := by exact kL HT_.out HW_.out (by kernel_rfl)) (hQ : ∀ c a w, Q (.panic c) (a.put oi.dst v) w → Q (.panic c) a w := by exact (fun _ _ _ h => h)) (hy : YieldsIf P ops S oi v a := by exact (Or.inl ⟨by rfl, by (rintro w' ⟨s0, s1, s2, s3, s4, s5⟩; go_simp; with_reducible rfl)⟩)) (ha : a.put N v = a' := by (simp only [Act.put, List.setIfInBounds_toArray, List.set_cons_zero, List.set_cons_succ, eX, iI]; rfl)) : cZ P md ops Q S ds (fuel + 1) l a w := nH l' hi hN hc hQ hy hS ha h
theorem qZ {P : Program} {ops : Array Oper} {Q : Exit → Act → World → Prop} {md : Region.Mode} {S : World → Prop} {ds : List Nat} {i : Nat} {N : Option Tmp} {oi : Oper} {v : Value} {fuel : Nat} {l l' : Array Bool} {a a' : Act} {w : World} (hS : S w) (h : cZ P md ops Q S ds fuel l' a' w) (hl : l.setIfInBounds i true = l' := by (simp only [List.setIfInBounds_toArray, List.set_cons_zero, List.set_cons_succ]; rfl)) (hi : ops[i]? = some oi := by exact rfl) (hN : oi.dst = N := by exact rfl) (hc : takeB md ops ds l l' i = true := by exact kL HT_.out HW_.out (by kernel_rfl)) (hQ : ∀ c a w, Q (.panic c) (a.put oi.dst v) w → Q (.panic c) a w := by exact (fun _ _ _ h => h)) (hy : YieldsIf P ops S oi v a := by exact (Or.inl ⟨by rfl, by (rintro w' ⟨s0, s1, s2, s3, s4, s5, s6, s7, s8⟩; go_simp; with_reducible rfl)⟩)) (ha : a.put N v = a' := by (simp only [Act.put, List.setIfInBounds_toArray, List.set_cons_zero, List.set_cons_succ, eX, iI]; rfl)) : cZ P md ops Q S ds (fuel + 1) l a w := nH l' hi hN hc hQ hy hS ha h
theorem rW {P : Program} {ops : Array Oper} {Q : Exit → Act → World → Prop} {md : Region.Mode} {S : World → Prop} {ds : List Nat} {i : Nat} {N : Option Tmp} {oi : Oper} {v : Value} {fuel : Nat} {l l' : Array Bool} {a a' : Act} {w : World} (hS : S w) (h : cZ P md ops Q S ds fuel l' a' w) (hl : l.setIfInBounds i true = l' := by (simp only [List.setIfInBounds_toArray, List.set_cons_zero, List.set_cons_succ]; rfl)) (hi : ops[i]? = some oi := by exact rfl) (hN : oi.dst = N := by exact rfl) (hc : takeB md ops ds l l' i = true := by exact kL HT_.out HW_.out (by kernel_rfl)) (hQ : ∀ c a w, Q (.panic c) (a.put oi.dst v) w → Q (.panic c) a w := by exact (fun _ _ _ h => h)) (hy : YieldsIf P ops S oi v a := by exact (Or.inl ⟨by rfl, by (rintro w' ⟨s0, s1, s2, s3, s4, s5, s6, s7, s8, s9, s10, s11, s12, s13, s14, s15, s16, s17, s18, s19, s20, s21, s22, s23, s24⟩; go_simp; with_reducible rfl)⟩)) (ha : a.put N v = a' := by (simp only [Act.put, List.setIfInBounds_toArray, List.set_cons_zero, List.set_cons_succ, eX, iI]; rfl)) : cZ P md ops Q S ds (fuel + 1) l a w := nH l' hi hN hc hQ hy hS ha h
theorem bo_ {α β : Type} {x : Option α} {f : α → Option β} {r : β} (h : x.bind f = some r) : ∃ a, af (x = some a) ∧ f a = some r := (Option.bind_eq_some_iff.mp h).imp (fun _ z => ⟨a_ z.1, z.2⟩)
theorem ig_ {α : Type} {c : Prop} [Decidable c] {x : Option α} {r : α} (h : (if c then x else none) = some r) : c ∧ x = some r := by
  by_cases z : c
  · rw [if_pos z] at h; exact ⟨z, h⟩
  · rw [if_neg z] at h; cases h
theorem in_ {α : Type} {c : Prop} [Decidable c] {x : Option α} {r : α} (h : (if c then none else x) = some r) : ¬ c ∧ x = some r := by
  by_cases z : c
  · rw [if_pos z] at h; cases h
  · rw [if_neg z] at h; exact ⟨z, h⟩
set_option maxHeartbeats 8000000
set_option maxRecDepth 100000
def fE.f (a0 : Int) (a1 : Int) (a2 : Int) : Option (Bool) := if a1 ≤ a0 then (some (decide (a0 ≤ a2))) else (some false)
theorem fE.calls (a0 : Int) (a1 : Int) (a2 : Int) (r : Bool) (w : World) (h : fE.f a0 a1 a2 = some r) :
  Calls Tryz.prog 54 #[.int .i64 a0, .int .i64 a1, .int .i64 a2] w fun e w' => e = .returned (.bool r) ∧ fJ w w' := by
 have H : (if a1 ≤ a0 then (some (decide (a0 ≤ a2))) else (some false)) = some r := h
 clear h
 by_cases c4 : a1 ≤ a0
 ·rw [if_pos c4] at H
  have A1 := decide_eq_true c4
  clear c4
  obtain rfl := Option.some.inj H
  go_enter Tryz.func54, Tryz.ntmps54
  go_wp2
  go_ret
  exact ⟨gT, fI⟩
 rw [if_neg c4] at H
 have A1 := decide_eq_false c4
 clear c4
 obtain rfl := Option.some.inj H
 go_enter Tryz.func54, Tryz.ntmps54
 go_wp2
 go_ret
 exact ⟨gT, fI⟩
def fC.f (a0 : Int) : Option (Bool) := if a0 = 1 then (some true) else (if a0 = 2 then (some true) else (if a0 = 4 then (some true) else (some (a0 == 8))))
theorem fC.calls (a0 : Int) (r : Bool) (w : World) (h : fC.f a0 = some r) :
  Calls Tryz.prog 84 #[.int .i64 a0] w fun e w' => e = .returned (.bool r) ∧ fJ w w' := by
 have H : (if a0 = 1 then (some true) else (if a0 = 2 then (some true) else (if a0 = 4 then (some true) else (some (a0 == 8))))) = some r := h
 clear h
 by_cases c2 : a0 = 1
 ·rw [if_pos c2] at H
  have A1 : (a0 == 1) = true := beq_iff_eq.mpr c2
  have A2 : (a0 != 1) = false := bne_eq_false_iff_eq.mpr c2
  clear c2
  obtain rfl := Option.some.inj H
  go_enter Tryz.func84, Tryz.ntmps84
  go_wp2
  go_ret
  exact ⟨gT, fI⟩
 rw [if_neg c2] at H
 have A1 : (a0 == 1) = false := beq_eq_false_iff_ne.mpr c2
 have A2 : (a0 != 1) = true := bne_iff_ne.mpr c2
 by_cases c3 : a0 = 2
 ·rw [if_pos c3] at H
  have A3 : (a0 == 2) = true := beq_iff_eq.mpr c3
  have A4 : (a0 != 2) = false := bne_eq_false_iff_eq.mpr c3
  clear c3
  obtain rfl := Option.some.inj H
  go_enter Tryz.func84, Tryz.ntmps84
  go_wp2
  go_ret
  exact ⟨gT, fI⟩
 rw [if_neg c3] at H
 have A3 : (a0 == 2) = false := beq_eq_false_iff_ne.mpr c3
 have A4 : (a0 != 2) = true := bne_iff_ne.mpr c3
 by_cases c4 : a0 = 4
 ·rw [if_pos c4] at H
  have A5 : (a0 == 4) = true := beq_iff_eq.mpr c4
  have A6 : (a0 != 4) = false := bne_eq_false_iff_eq.mpr c4
  clear c4
  obtain rfl := Option.some.inj H
  go_enter Tryz.func84, Tryz.ntmps84
  go_wp2
  go_ret
  exact ⟨gT, fI⟩
 rw [if_neg c4] at H
 have A5 : (a0 == 4) = false := beq_eq_false_iff_ne.mpr c4
 have A6 : (a0 != 4) = true := bne_iff_ne.mpr c4
 obtain rfl := Option.some.inj H
 go_enter Tryz.func84, Tryz.ntmps84
 go_wp2
 go_ret
 exact ⟨gT, fI⟩
def dn.f (a0 : Int) (a1 : Int) : Option (Bool) := (fC.f a0).bind fun t101 => (if t101 = true then ((fC.f a1).bind fun t102 => (some t102)) else (some false))
theorem dn.calls (a0 : Int) (a1 : Int) (r : Bool) (w : World) (h : dn.f a0 a1 = some r) :
  Calls Tryz.prog 60 #[.int .i64 a0, .int .i64 a1] w fun e w' => e = .returned (.bool r) ∧ fJ w w' := by
 have H : ((fC.f a0).bind fun A2 => (if A2 = true then ((fC.f a1).bind fun A1 => (some A1)) else (some false))) = some r := h
 clear h
 replace H := bo_ H; obtain ⟨A2, A3, H⟩ := H; (try dsimp only at H)
 by_cases c4 : A2 = true
 ·subst c4
  have H1 : ((fC.f a1).bind fun A1 => (some A1)) = some r := by rw [if_pos rfl] at H; exact H
  clear H
  have H := H1
  clear H1
  replace H := bo_ H; obtain ⟨A1, A5, H⟩ := H; (try dsimp only at H)
  obtain rfl := Option.some.inj H
  go_enter Tryz.func60, Tryz.ntmps60
  go_wp2_with (first | ((with_reducible refine av (f := 84) rfl ?_); refine bJ (some 6) rfl rfl Tryz.func84 (by kernel_rfl) rfl #[.int .i64 a0] rfl dN ?_; (with_reducible refine (fC.calls a0 true _ A3.out).mono ?_); rintro e w' ⟨rfl, ⟨nd, rfl⟩⟩; refine ⟨_, rfl, ?_⟩) | (go_at_call 84; (with_reducible refine (fC.calls a1 A1 _ A5.out).mono ?_); rintro e w' ⟨rfl, ⟨nd, rfl⟩⟩))
  go_ret
  exact ⟨gT, fI⟩
 ·replace c4 := Bool.eq_false_iff.mpr c4
  subst c4
  have H1 : (some false) = some r := by rw [if_neg (show ¬ (false = true) by decide)] at H; exact H
  clear H
  have H := H1
  clear H1
  obtain rfl := Option.some.inj H
  go_enter Tryz.func60, Tryz.ntmps60
  go_wp2_with (first | ((with_reducible refine av (f := 84) rfl ?_); refine bJ (some 6) rfl rfl Tryz.func84 (by kernel_rfl) rfl #[.int .i64 a0] rfl dN ?_; (with_reducible refine (fC.calls a0 false _ A3.out).mono ?_); rintro e w' ⟨rfl, ⟨nd, rfl⟩⟩; refine ⟨_, rfl, ?_⟩))
  go_ret
  exact ⟨gT, fI⟩
def dz.f (l0 : List Int) : Option (Int) := some (l0.length : Int)
theorem dz.calls (A0 : Option Addr) (c0 : Nat) (l0 : List Int) (r : Int) (w : World) (hr0 : Kd.C (Kd.int .i64) w A0 l0.length l0) (hc0 : l0.length ≤ c0) (h : dz.f l0 = some r) :
  Calls Tryz.prog 61 #[.slice A0 l0.length c0] w fun e w' => e = .returned (.int .i64 r) ∧ fJ w w' := by
 have HR0 := a_ hr0
 have A1 := a_ hc0
 clear hr0 hc0
 have H : (some (l0.length : Int)) = some r := h
 clear h
 obtain rfl := Option.some.inj H
 go_enter Tryz.func61, Tryz.ntmps61
 go_wp2
 go_ret
 exact ⟨gT, fI⟩
def jb (lo hi n : Int) : Bool := !(decide (lo ≤ n ∧ n ≤ hi))
theorem uX (n lo hi : Int) : fE.f n lo hi = some (!(jb lo hi n)) := by
 unfold fE.f jb
 by_cases h : lo ≤ n
 ·rw [if_pos h]; simp [h]
 ·rw [if_neg h]; simp [h]
def jR (p : Int → Bool) : List Int → Int → Int
 | [], _ => -1
 | x :: t, i => if p x = true then i else jR p t (i + 1)
theorem lK (p : Int → Bool) : ∀ (l : List Int) (i : Int), 0 ≤ i → (decide (jR p l i ≥ 0)) = l.any p
 | [], i, h => rfl
 | x :: t, i, h => by
  unfold jR
  by_cases hx : p x = true
  ·rw [if_pos hx, List.any_cons, hx, Bool.true_or]; exact decide_eq_true h
  ·rw [if_neg hx, List.any_cons, Bool.eq_false_iff.mpr hx, Bool.false_or]; exact lK p t (i + 1) (by omega)
def gU.f (l0 : List Int) (a1 : Int) (a2 : Int) : Option Bool := some (!(l0.any (jb a1 a2)))
theorem gU.closure (b1 b2 : Nat) (lo hi n : Int) (w : World) (h1 : w.cell? ⟨b1, 0, none⟩ = some (.int .i64 lo)) (h2 : w.cell? ⟨b2, 0, none⟩ = some (.int .i64 hi)) :
  Calls Tryz.prog 86 #[.int .i64 n, .pointer (some ⟨b1, 0, none⟩), .pointer (some ⟨b2, 0, none⟩)] w fun e w' => e = .returned (.bool (jb lo hi n)) ∧ fJ w w' := by
 go_enter Tryz.func86, Tryz.ntmps86
 go_wp2_with (go_at_call 54; (with_reducible refine (fE.calls n lo hi _ _ (uX n lo hi)).mono ?_); rintro e w' ⟨rfl, ⟨nd, rfl⟩⟩)
 go_ret
 exact ⟨by simp, ⟨_, rfl⟩⟩
theorem gU.index (b1 b2 : Nat) (lo hi : Int) (A0 : Option Addr) (c0 : Nat) (l0 : List Int) (w : World) (h1 : w.cell? ⟨b1, 0, none⟩ = some (.int .i64 lo)) (h2 : w.cell? ⟨b2, 0, none⟩ = some (.int .i64 hi)) (hr0 : Kd.C (Kd.int .i64) w A0 l0.length l0) (hc0 : l0.length ≤ c0) :
  Calls Tryz.prog 100 #[.slice A0 l0.length c0, .func (.func 86) #[] #[.pointer (some ⟨b1, 0, none⟩), .pointer (some ⟨b2, 0, none⟩)]] w fun e w' => e = .returned (.int .i64 (jR (jb lo hi) l0 0)) ∧ fJ w w' := by
 have hlm : l0.length ≤ 9223372036854775807 := (Kd.qJ (d := (0 : Int)) hr0).2.1
 have HR0 := a_ hr0
 have A1 := a_ hc0
 clear hr0 hc0
 go_enter Tryz.func100, Tryz.ntmps100
 go_wp2
 go_loopg [8] (l0.length + 1) (fun kq v8 w' => ∃ (i : Nat), v8 = .int .i64 (i : Int) ∧ af (i + kq = l0.length + 1 ∧ i ≤ l0.length) ∧ af (jR (jb lo hi) (l0.drop i) i = jR (jb lo hi) l0 0) ∧ fJ w w')
 case atStart => exact ⟨0, rfl, ⟨by omega, by omega⟩, ⟨by simp⟩, fJ.refl _⟩
 case round =>
  obtain ⟨i, rfl, HK, HD, ⟨m, rfl⟩⟩ := hrel
  cases gk with
  | zero =>
   exact absurd HK.out (fun h => by omega)
  | succ k1 =>
   by_cases hlt : i < l0.length
   ·obtain ⟨ad, e, hx⟩ := Kd.eF HR0.out (i : Int) (by omega) (by omega)
    cases e
    rw [Int.toNat_natCast] at hx
    have hd : l0.drop i = rd l0 (i : Int) :: l0.drop (i + 1) := by
     rw [List.drop_eq_getElem_cons hlt]
     simp [rd, List.getD_eq_getElem?_getD, hlt]
    have HD2 := HD.out
    rw [hd, jR] at HD2
    have HE := a_ HD2
    clear HD HD2 hd
    go_wp2_with fail
    refine (gU.closure b1 b2 lo hi (rd l0 (i : Int)) _ (by go_simp) (by go_simp)).mono ?_
    rintro e w' ⟨rfl, ⟨nd, rfl⟩⟩
    generalize hp : jb lo hi (rd l0 (i : Int)) = q at HE ⊢
    cases q with
    | true =>
     have HD2 := HE.out
     rw [if_pos rfl] at HD2
     have HF := a_ HD2
     clear HE HD2 hp
     go_wp2
     go_ret
     rw [← HF.out]
     exact ⟨rfl, ⟨_, rfl⟩⟩
    | false =>
     have HD2 := HE.out
     rw [if_neg (by simp)] at HD2
     have HF := a_ HD2
     clear HE HD2 hp
     go_wp2
     go_roundg k1
     case measure => omega
     case rel => exact ⟨i + 1, by go_num, ⟨by have := HK.out; omega⟩, ⟨by rw [← HF.out]; rfl⟩, ⟨_, rfl⟩⟩
   ·have HD2 := HD.out
    rw [List.drop_of_length_le (by omega)] at HD2
    have HF := a_ HD2
    clear HD HD2
    go_wp2
    go_ret
    rw [← HF.out]
    exact ⟨rfl, ⟨_, rfl⟩⟩
theorem gU.contains (b1 b2 : Nat) (lo hi : Int) (A0 : Option Addr) (c0 : Nat) (l0 : List Int) (w : World) (h1 : w.cell? ⟨b1, 0, none⟩ = some (.int .i64 lo)) (h2 : w.cell? ⟨b2, 0, none⟩ = some (.int .i64 hi)) (hr0 : Kd.C (Kd.int .i64) w A0 l0.length l0) (hc0 : l0.length ≤ c0) :
  Calls Tryz.prog 85 #[.slice A0 l0.length c0, .func (.func 86) #[] #[.pointer (some ⟨b1, 0, none⟩), .pointer (some ⟨b2, 0, none⟩)]] w fun e w' => e = .returned (.bool (l0.any (jb lo hi))) ∧ fJ w w' := by
 have HX := a_ (gU.index b1 b2 lo hi A0 c0 l0 w h1 h2 hr0 hc0)
 have HN := a_ (lK (jb lo hi) l0 0 (by omega))
 clear hr0 hc0
 go_enter Tryz.func85, Tryz.ntmps85
 go_wp2_with (go_at_call 100; (with_reducible refine HX.out.mono ?_); rintro e w' ⟨rfl, ⟨nd, rfl⟩⟩)
 go_ret
 rw [← HN.out]
 exact ⟨rfl, ⟨_, rfl⟩⟩
theorem gU.calls (A0 : Option Addr) (c0 : Nat) (l0 : List Int) (a1 : Int) (a2 : Int) (r : Bool) (w : World) (hr0 : Kd.C (Kd.int .i64) w A0 l0.length l0) (hc0 : l0.length ≤ c0) (h : gU.f l0 a1 a2 = some r) :
  Calls Tryz.prog 62 #[.slice A0 l0.length c0, .int .i64 a1, .int .i64 a2] w fun e w' => e = .returned (.bool r) ∧ Below w.heap.size w w' := by
 have hh := Option.some.inj h
 have HF := a_ hh
 have HR0 := a_ hr0
 have A1 := a_ hc0
 clear hr0 hc0 h hh
 go_enter Tryz.func62, Tryz.ntmps62
 go_wp2_with (go_at_call 85; (with_reducible refine (gU.contains w.heap.size (w.heap.size + 1) a1 a2 A0 c0 l0 _ ?s1 ?s2 ?s3 A1.out).mono ?_); (case s1 => go_simp); (case s2 => go_simp); (case s3 => exact Kd.dD (Kd.dD HR0.out _) _); rintro e w' ⟨rfl, ⟨nd, rfl⟩⟩)
 go_ret
 rw [← HF.out]
 exact ⟨by first | rfl | (simp; done), by repeat (first | (with_reducible first | exact Below.refl _ _ | apply aN | apply aD | apply aM) | exact Below.refl _ _)⟩
section
open Go.Maps Go.Sort Go.Shelf
def vs.qp : Go.Shelf.Ren := ⟨fun | 6 => 63 | 8 => 87 | 9 => 88 | 11 => 101 | 13 => 103 | 12 => 102 | 23 => 125 | 24 => 126 | 14 => 116 | 15 => 117 | 16 => 118 | 17 => 119 | 18 => 120 | 19 => 121 | 20 => 122 | 21 => 123 | 22 => 124 | 25 => 132 | 26 => 133 | 27 => 134 | 28 => 135 | 29 => 136 | 30 => 137 | 31 => 145 | n => n, fun | 26 => 2 | 28 => 79 | 24 => 22 | 0 => 0 | 3 => 3 | 37 => 115 | 48 => 135 | 50 => 137 | 4 => 4 | 40 => 128 | 39 => 127 | 45 => 132 | 5 => 5 | 9 => 9 | 51 => 142 | 55 => 146 | 57 => 150 | 58 => 151 | 33 => 98 | n => n, fun | n => n⟩
theorem vs.sorted : Go.Proofs.SlLaysZI.n6 Tryz.prog vs.qp := {
 mixed := by kernel_rfl
 f6 := ⟨Tryz.f63.name, by decide, Tryz.func63.trans (congrArg some (by kernel_rfl))⟩
 f8 := ⟨Tryz.f87.name, by decide, Tryz.func87.trans (congrArg some (by kernel_rfl))⟩
 f11 := ⟨Tryz.f101.name, by decide, Tryz.func101.trans (congrArg some (by kernel_rfl))⟩
 t0 := Tryz.underlying0
 a0 := Tryz.isAgg0
 z0 := Tryz.sizeOf0
 v0 := Tryz.zeroValue0
 t24 := Tryz.underlying22
 a24 := Tryz.isAgg22
 z24 := Tryz.sizeOf22
 v24 := Tryz.zeroValue22
 t26 := Tryz.underlying2
 a26 := Tryz.isAgg2
 z26 := Tryz.sizeOf2
 v26 := Tryz.zeroValue2
 t28 := Tryz.underlying79
 a28 := Tryz.isAgg79
 z28 := Tryz.sizeOf79
 v28 := Tryz.zeroValue79
 i26 := by kernel_rfl }
def vs.xY : Go.Shelf.Ren := ⟨fun | 5 => 88 | 8 => 103 | 7 => 102 | 19 => 125 | 20 => 126 | 10 => 116 | 11 => 117 | 12 => 118 | 13 => 119 | 14 => 120 | 15 => 121 | 16 => 122 | 17 => 123 | 18 => 124 | 30 => 132 | 31 => 133 | 32 => 134 | 33 => 135 | 34 => 136 | 35 => 137 | 40 => 145 | n => n, fun | 23 => 22 | 25 => 2 | 3 => 3 | 32 => 115 | 22 => 22 | 0 => 0 | 44 => 135 | 46 => 137 | 4 => 4 | 36 => 128 | 35 => 127 | 41 => 132 | 5 => 5 | 9 => 9 | 53 => 142 | 57 => 146 | 63 => 150 | 64 => 151 | n => n, fun | n => n⟩
theorem vs.sort : Go.Proofs.SlLaysM.n5 Tryz.prog vs.xY := {
 mixed := by kernel_rfl
 f5 := ⟨Tryz.f88.name, by decide, Tryz.func88.trans (congrArg some (by kernel_rfl))⟩
 f7 := ⟨Tryz.f102.name, by decide, Tryz.func102.trans (congrArg some (by kernel_rfl))⟩
 f8 := Tryz.func103.trans (congrArg some (by kernel_rfl))
 f10 := ⟨Tryz.f116.name, by decide, Tryz.func116.trans (congrArg some (by kernel_rfl))⟩
 f11 := ⟨Tryz.f117.name, by decide, Tryz.func117.trans (congrArg some (by kernel_rfl))⟩
 f12 := ⟨Tryz.f118.name, by decide, Tryz.func118.trans (congrArg some (by kernel_rfl))⟩
 f13 := ⟨Tryz.f119.name, by decide, Tryz.func119.trans (congrArg some (by kernel_rfl))⟩
 f14 := ⟨Tryz.f120.name, by decide, Tryz.func120.trans (congrArg some (by kernel_rfl))⟩
 f15 := ⟨Tryz.f121.name, by decide, Tryz.func121.trans (congrArg some (by kernel_rfl))⟩
 f16 := ⟨Tryz.f122.name, by decide, Tryz.func122.trans (congrArg some (by kernel_rfl))⟩
 f17 := ⟨Tryz.f123.name, by decide, Tryz.func123.trans (congrArg some (by kernel_rfl))⟩
 f18 := ⟨Tryz.f124.name, by decide, Tryz.func124.trans (congrArg some (by kernel_rfl))⟩
 f19 := Tryz.func125.trans (congrArg some (by kernel_rfl))
 f20 := Tryz.func126.trans (congrArg some (by kernel_rfl))
 f30 := ⟨Tryz.f132.name, by decide, Tryz.func132.trans (congrArg some (by kernel_rfl))⟩
 f31 := Tryz.func133.trans (congrArg some (by kernel_rfl))
 f32 := Tryz.func134.trans (congrArg some (by kernel_rfl))
 f33 := ⟨Tryz.f135.name, by decide, Tryz.func135.trans (congrArg some (by kernel_rfl))⟩
 f34 := ⟨Tryz.f136.name, by decide, Tryz.func136.trans (congrArg some (by kernel_rfl))⟩
 f35 := ⟨Tryz.f137.name, by decide, Tryz.func137.trans (congrArg some (by kernel_rfl))⟩
 f40 := ⟨Tryz.f145.name, by decide, Tryz.func145.trans (congrArg some (by kernel_rfl))⟩
 t0 := Tryz.underlying0
 a0 := Tryz.isAgg0
 z0 := Tryz.sizeOf0
 v0 := Tryz.zeroValue0
 t3 := Tryz.underlying3
 a3 := Tryz.isAgg3
 z3 := Tryz.sizeOf3
 v3 := Tryz.zeroValue3
 t4 := Tryz.underlying4
 a4 := Tryz.isAgg4
 z4 := Tryz.sizeOf4
 v4 := Tryz.zeroValue4
 t5 := Tryz.underlying5
 a5 := Tryz.isAgg5
 z5 := Tryz.sizeOf5
 v5 := Tryz.zeroValue5
 t9 := Tryz.underlying9
 a9 := Tryz.isAgg9
 z9 := Tryz.sizeOf9
 v9 := Tryz.zeroValue9
 t22 := Tryz.underlying22
 a22 := Tryz.isAgg22
 z22 := Tryz.sizeOf22
 v22 := Tryz.zeroValue22
 t23 := Tryz.underlying22
 a23 := Tryz.isAgg22
 z23 := Tryz.sizeOf22
 v23 := Tryz.zeroValue22
 t25 := Tryz.underlying2
 a25 := Tryz.isAgg2
 z25 := Tryz.sizeOf2
 v25 := Tryz.zeroValue2
 t32 := Tryz.underlying115
 a32 := Tryz.isAgg115
 z32 := Tryz.sizeOf115
 v32 := Tryz.zeroValue115
 t35 := Tryz.underlying127
 a35 := Tryz.isAgg127
 z35 := Tryz.sizeOf127
 v35 := Tryz.zeroValue127
 t36 := Tryz.underlying128
 a36 := Tryz.isAgg128
 z36 := Tryz.sizeOf128
 v36 := Tryz.zeroValue128
 t41 := Tryz.underlying132
 a41 := Tryz.isAgg132
 z41 := Tryz.sizeOf132
 v41 := Tryz.zeroValue132
 t44 := Tryz.underlying135
 a44 := Tryz.isAgg135
 z44 := Tryz.sizeOf135
 v44 := Tryz.zeroValue135
 t46 := Tryz.underlying137
 a46 := Tryz.isAgg137
 z46 := Tryz.sizeOf137
 v46 := Tryz.zeroValue137
 t53 := Tryz.underlying142
 a53 := Tryz.isAgg142
 z53 := Tryz.sizeOf142
 v53 := Tryz.zeroValue142
 t57 := Tryz.underlying146
 a57 := Tryz.isAgg146
 z57 := Tryz.sizeOf146
 v57 := Tryz.zeroValue146
 t63 := Tryz.underlying150
 a63 := Tryz.isAgg150
 z63 := Tryz.sizeOf150
 v63 := Tryz.zeroValue150
 t64 := Tryz.underlying151
 a64 := Tryz.isAgg151
 z64 := Tryz.sizeOf151
 v64 := Tryz.zeroValue151 }
theorem vs.sorts (m : Nat) : AnyZI.SortsIn Tryz.prog vs.qp Fence.wide m :=
 ⟨fun blk off cap ss W hH hblk hsz => callsIn_wide.2 (AnyM.slices_Sort_int vs.sort blk off cap ss W hH hblk hsz),
  fun p cap W => callsIn_wide.2 (AnyM.slices_Sort_int_none vs.sort p cap W)⟩
def vs.Gives (F : Fence) (n : Nat) (P : Program) (g : Nat) (lb : Array Value) (zs : List Int) (w : World) : Prop :=
 ∀ (l : Nat) (J : List Int → World → Prop) (W : World), (∀ pre W1, J pre W1 → Below w.heap.size w W1) →
  (∀ pre x W1, J pre W1 → pre.length < zs.length → YieldAt F (n - 1) P l #[encZ x] W1 fun e W' => e = .returned (.bool true) ∧ J (pre ++ [x]) W' ∧ KeepsWalks W1 W') →
  J [] W → CallsIn F n P g (#[.func (.yield l) #[] #[]] ++ lb) W fun e W' => (∃ v, e = .returned v) ∧ J zs W'
theorem vs.Gives.later {F : Fence} {n : Nat} {P : Program} {g : Nat} {lb : Array Value} {zs : List Int} {w w' : World} (h : vs.Gives F n P g lb zs w) (hb : Below w.heap.size w w') : vs.Gives F n P g lb zs w' :=
 fun l J W hJ hY h0 => h l J W (fun pre W1 hj => hb.trans ((hJ pre W1 hj).mono hb.size)) hY h0
def vs.upto (f : Nat → Int) (k : Nat) : List Int := (List.range k).map f
theorem vs.xE (f : Nat → Int) (k : Nat) : vs.upto f (k + 1) = vs.upto f k ++ [f k] := by simp [vs.upto, List.range_succ]
theorem vs.vo (f : Nat → Int) (k : Nat) : (vs.upto f k).length = k := by simp [vs.upto]
theorem vs.yj (zs : List Int) : vs.upto (fun j => zs[j]?.getD 0) zs.length = zs := by
 apply List.ext_getElem
 ·simp [vs.upto]
 ·intro i h1 h2
  simp [vs.upto, h2]
section
attribute [local go_sem] Oper.semAt_some
theorem vs.zw (n : Nat) (hn : 1 ≤ n) (Bs b off cap : Nat) (zs : List Int) (hreach : zs.length * 8 ≤ 140737488351232) (w : World) (hBl : Bs < w.heap.size) (hb : b < w.heap.size)
  (hBs : w.cell? ⟨Bs, 0, none⟩ = some (.slice (some ⟨b, off, none⟩) zs.length cap)) (hc : ∀ j, j < zs.length → w.cell? ⟨b, off + j, none⟩ = some (.int .i64 (zs[j]?.getD 0))) :
  vs.Gives Fence.wide n Tryz.prog 89 #[.pointer (some ⟨Bs, 0, none⟩)] zs w := by
 intro l J W hJB hY h0
 obtain ⟨f, hf⟩ : ∃ f : Nat → Int, f = fun j => zs[j]?.getD 0 := ⟨_, rfl⟩
 have hall : vs.upto f zs.length = zs := by rw [hf]; exact vs.yj zs
 have hc' : ∀ j, j < zs.length → w.cell? ⟨b, off + j, none⟩ = some (.int .i64 (f j)) := fun j hj => by rw [hf]; exact hc j hj
 clear hc hf
 have HA := a_ hall
 clear hall
 have key : ∀ len : Nat, len = zs.length → CallsIn Fence.wide n Tryz.prog 89 (#[.func (.yield l) #[] #[]] ++ #[.pointer (some ⟨Bs, 0, none⟩)]) W fun e W' => (∃ v, e = .returned v) ∧ J (vs.upto f len) W' := by
  intro len hlen
  rw [← hlen] at hreach hBs hc' hY
  clear hlen HA
  have hBs' := ((hJB _ _ h0).cell (p := ⟨Bs, 0, none⟩) hBl).trans hBs
  refine callsIn_of_wp Tryz.func89 rfl trivial ?_ rfl
  simp only [Tryz.ntmps89, List.size_toArray, List.length_cons, List.length_nil, Nat.reduceAdd, Nat.reduceSub, Array.replicate_succ, Array.replicate_zero, List.push_toArray, List.append_toArray, List.nil_append, List.cons_append]
  gi_wp2
  gi_loopw [7] (fun i wr => ∃ k : Nat, k ≤ len ∧ i = .int .i64 k ∧ J (vs.upto f k) wr)
   (fun i _ => len - (intOf i).toNat)
  case atStart => exact ⟨0, Nat.zero_le _, rfl, h0⟩
  case round =>
   obtain ⟨k, hk, rfl, hJs⟩ := hrel
   have hcx : k < len → wr.cell? ⟨b, off + k, none⟩ = some (.int .i64 (f k)) := fun h => ((hJB _ _ hJs).cell (p := ⟨b, off + k, none⟩) hb).trans (hc' k h)
   by_cases hlt : k < len
   ·obtain ⟨fn, tmps, assign, body, hy, hR⟩ := hY _ (f k) wr hJs (by rw [vs.vo]; exact hlt)
    have hcx' := hcx hlt
    dsimp only [encZ] at hy
    gi_wp2
    refine hR.mono ?_
    rintro e W3 ⟨rfl, hJ3, _⟩
    gi_wp2
    go_roundw
    case rel => exact ⟨k + 1, by omega, by simp, by rw [vs.xE]; exact hJ3⟩
    case measure => simp [intOf]; omega
   ·obtain rfl : k = len := by omega
    gi_wp2
    go_end0
    exact ⟨⟨_, rfl⟩, hJs⟩
 have := key zs.length rfl
 rw [HA.out] at this
 exact this
theorem vs.values (n : Nat) (a : Option Addr) (len cap : Nat) (w : World) :
  CallsIn Fence.wide n Tryz.prog 64 #[.slice a len cap] w fun e w' => e = .returned (.func (.func 89) #[] #[.pointer (some ⟨w.heap.size, 0, none⟩)]) ∧ w' = w.alloc (.cells #[.slice a len cap] 22) := by
 refine callsIn_of_wp Tryz.func64 rfl trivial ?_ rfl
 simp only [Tryz.ntmps64, List.size_toArray, List.length_cons, List.length_nil, Nat.reduceAdd, Nat.reduceSub, Array.replicate_succ, Array.replicate_zero, List.push_toArray, List.append_toArray, List.nil_append, List.cons_append]
 gi_wp2
 go_ret
 exact ⟨rfl, rfl⟩
end
variable {P : Program} {ρ : Ren}
theorem vs.append (L : SlLaysZI.n11 P ρ) (F : Fence) (n : Nat) (h11 : F.fn (ρ.f 11)) (hro : F.round = none) (hn : 2 ≤ n) (g : Nat) (lb : Array Value) (hFg : F.fn g) (eg : ∀ args w, (callFunc g args).run P w = .ok (.enter g args) w)
  (zs : List Int) (hN : zs.length ≤ maxLen) (hNb : zs.length * 8 ≤ 140737488355328) (w : World) (hseq : vs.Gives F (n - 1) P g lb zs w) :
  CallsIn F n P (ρ.f 11) #[.slice none 0 0, .func (.func g) #[] lb] w fun e w' => ∃ v : Value, e = .returned v ∧ w'.ownsRow w.heap.size (ρ.t 26) 1 v zs.length (zs.map encZ) ∧ Below w.heap.size w w' := by
 have h1 : 1 ≤ n := by omega
 have mixed := L.mixed; have t0 := L.t0; have a0 := L.a0; have z0 := L.z0; have v0 := L.v0; have t24 := L.t24; have a24 := L.a24; have z24 := L.z24; have v24 := L.v24; have t26 := L.t26; have a26 := L.a26; have z26 := L.z26; have v26 := L.v26; have t28 := L.t28; have a28 := L.a28; have z28 := L.z28; have v28 := L.v28
 have hne : ρ.t 24 ≠ ρ.t 26 := fun e => by have h := L.t24; rw [e, L.t26] at h; cases h
 have u0 := run_underlying L.t0; have u24 := run_underlying L.t24; have u26 := run_underlying L.t26; have u28 := run_underlying L.t28
 obtain ⟨_, _, FG⟩ := L.f11
 refine callsIn_of_wp_marks FG rfl h11 ?_ hro
 simp only [SlBodyZ.n11_ntmps ρ, List.size_toArray, List.length_cons, List.length_nil, Nat.reduceAdd, Nat.reduceSub, Array.replicate_succ, Array.replicate_zero, List.push_toArray, List.append_toArray, List.nil_append, List.cons_append]
 gi_wp2
 refine wpIn_rangeFunc ?_
 intro fn hfn
 rw [hro]
 obtain ⟨W0, hW0⟩ : ∃ W0, w.alloc (.cells #[.slice none 0 0] (ρ.t 24)) = W0 := ⟨_, rfl⟩
 have A1 : W0.heap.size = w.heap.size + 1 := by rw [← hW0]; simp
 have hv0 : W0.heap[w.heap.size]? = some (.cells #[.slice none 0 0] (ρ.t 24) (0, 0)) := by rw [← hW0]; exact World.alloc_heap_new w _
 have hb0 : Below w.heap.size w W0 := by rw [← hW0]; exact (Below.refl _ w).alloc (Nat.le_refl _) _
 rw [hW0]
 obtain ⟨W1, hW1⟩ : ∃ W1, (W0.alloc (.deferred (some []))).alloc (.loop (AnyZI.apRec ρ fn (.func (.func g) #[] lb) w.heap.size W0.heap.size .ready none)) = W1 := ⟨_, rfl⟩
 have hold : ∀ k, k < W0.heap.size → W1.heap[k]? = W0.heap[k]? := fun k hk => by
  rw [← hW1]; exact (Below.heap_alloc _ _ k (by simp; omega)).trans (Below.heap_alloc _ _ k hk)
 have hb1 : Below w.heap.size w W1 := by rw [← hW1]; exact (hb0.alloc hb0.size _).alloc (by have := hb0.size; simp; omega) _
 have hM : AnyZI.ApAt ρ w fn (.func (.func g) #[] lb) w.heap.size (W0.heap.size + 1) W0.heap.size [] W1 :=
  ⟨⟨_, (hold w.heap.size (by omega)).trans hv0, ⟨rfl, .inl ⟨rfl, rfl⟩⟩, by simp⟩,
   by rw [← hW1]; have := World.alloc_heap_new (W0.alloc (.deferred (some []))) (.loop (AnyZI.apRec ρ fn (.func (.func g) #[] lb) w.heap.size W0.heap.size .ready none)); rwa [World.size_alloc] at this,
   by rw [← hW1]; exact (Below.heap_alloc _ _ _ (by simp)).trans (World.alloc_heap_new W0 _), hb1⟩
 refine ⟨W0.heap.size + 1, [{ target := .collected W0.heap.size, args := #[] }], W1, { target := .fn (.func g) lb, args := #[.func (.yield (W0.heap.size + 1)) #[] #[]] }, W1, g,
  #[.func (.yield (W0.heap.size + 1)) #[] #[]] ++ lb, W1, ?_, ?_, ?_, ?_, fun _ => h1, ?_⟩
 ·rw [← hW1]; exact run_enterLoop_outer _ _ _ _ _
 ·simp [resolve, go_sem]
 ·intro f' hf'; simp [Target.leads] at hf'; subst hf'; exact hFg
 ·simp [invoke, go_sem, eg]
 ·refine (hseq (W0.heap.size + 1) (AnyZI.ApAt ρ w fn (.func (.func g) #[] lb) w.heap.size (W0.heap.size + 1) W0.heap.size) W1 (fun _ _ h => h.below)
   (fun pre x W hJ hl => AnyZI.apYield { L with } F (n - 1 - 1) w fn hfn _ w.heap.size (W0.heap.size + 1) W0.heap.size (by omega) (by omega) (by omega) (Nat.le_refl _) (by omega) zs.length hN hNb pre x W hJ hl) hM).mono ?_
  rintro e W2 ⟨⟨v0, rfl⟩, h2⟩
  obtain ⟨v, hv, hrow, hnil⟩ := h2.box
  have hend := run_endLoop (P := P) h2.L (by simp [AnyZI.apRec])
  obtain ⟨W3, hW3⟩ : ∃ W3, W2.putObj (W0.heap.size + 1) (.loop { AnyZI.apRec ρ fn (.func (.func g) #[] lb) w.heap.size W0.heap.size .ready none with state := .exhausted }) = W3 := ⟨_, rfl⟩
  rw [hW3] at hend
  have hg3 : W2.grownBy W3 (some (W0.heap.size + 1)) := by rw [← hW3]; exact grownBy_putObj_a _ _ _
  have hv3 : W3.heap[w.heap.size]? = some (.cells #[v] (ρ.t 24) (0, 0)) := by rw [← hW3]; exact (World.putObj_heap_other (by omega)).trans hv
  have hK3 : W3.heap[W0.heap.size]? = some (.deferred (some [])) := by rw [← hW3]; exact (World.putObj_heap_other (by omega)).trans h2.K
  have hrow3 := hrow.kept hg3 (ownsRow_ne_a hrow h2.L (fun cur e => by first | cases e | exact hne (Obj.cells.inj e).2.1))
  have hb3 : Below w.heap.size w W3 := h2.below.grown hg3 h2.below.size (fun k e => by cases e; omega)
  obtain ⟨hc3, hf3⟩ := cell_of_box_a hv3
  clear hW3
  refine ⟨none, W3, hend, ?_⟩
  gi_wp2
  rw [← A1]
  refine ⟨by simp, .inl ⟨_, _, rfl, run_takeDeferred hK3, ?_⟩⟩
  exact ⟨_, results_tmp rfl _ _ _, v, rfl, hrow3.kept (grownBy_putObj_a _ _ _) (ownsRow_ne_a hrow3 hK3 (fun cur e => by first | cases e | exact hne (Obj.cells.inj e).2.1)), hb3.grown (grownBy_putObj_a _ _ _) hb3.size (fun k e => by cases e; omega)⟩
theorem vs.collect (L : SlLaysZI.n8 P ρ) (F : Fence) (n : Nat) (h8 : F.fn (ρ.f 8)) (h11 : F.fn (ρ.f 11)) (hro : F.round = none) (hn : 3 ≤ n) (g : Nat) (lb : Array Value) (hFg : F.fn g) (eg : ∀ args w, (callFunc g args).run P w = .ok (.enter g args) w)
  (zs : List Int) (hN : zs.length ≤ maxLen) (hNb : zs.length * 8 ≤ 140737488355328) (w : World) (hseq : vs.Gives F (n - 1 - 1) P g lb zs w) :
  CallsIn F n P (ρ.f 8) #[.func (.func g) #[] lb] w fun e w' => ∃ v : Value, e = .returned v ∧ w'.ownsRow w.heap.size (ρ.t 26) 1 v zs.length (zs.map encZ) ∧ Below w.heap.size w w' := by
 have h1 : 1 ≤ n := by omega
 have A1 : ∀ args w, (callFunc (ρ.f 11) args).run P w = .ok (.enter (ρ.f 11) args) w := L.f11.enters rfl
 have mixed := L.mixed; have t0 := L.t0; have a0 := L.a0; have z0 := L.z0; have v0 := L.v0; have t24 := L.t24; have a24 := L.a24; have z24 := L.z24; have v24 := L.v24; have t26 := L.t26; have a26 := L.a26; have z26 := L.z26; have v26 := L.v26; have t28 := L.t28; have a28 := L.a28; have z28 := L.z28; have v28 := L.v28
 have u0 := run_underlying L.t0; have u24 := run_underlying L.t24; have u26 := run_underlying L.t26; have u28 := run_underlying L.t28
 obtain ⟨_, _, FG⟩ := L.f8
 refine callsIn_of_wp FG rfl h8 ?_ hro
 simp only [SlBodyZ.n8_ntmps ρ, List.size_toArray, List.length_cons, List.length_nil, Nat.reduceAdd, Nat.reduceSub, Array.replicate_succ, Array.replicate_zero, List.push_toArray, List.append_toArray, List.nil_append, List.cons_append]
 gi_wp2_with (gi_at_fn (ρ.f 11); refine (vs.append { L with } F (n - 1) h11 hro (by omega) g lb hFg eg zs hN hNb _ hseq).mono ?_; rintro e w' ⟨v, rfl, hrow, hb⟩)
 go_ret
 exact ⟨v, rfl, hrow, hb⟩
theorem vs.sorted_in (L : SlLaysZI.n6 P ρ) (F : Fence) (n : Nat) (h6 : F.fn (ρ.f 6)) (h8 : F.fn (ρ.f 8)) (h9 : F.fn (ρ.f 9)) (h11 : F.fn (ρ.f 11)) (hro : F.round = none) (hn : 4 ≤ n) (hsort : AnyZI.SortsIn P ρ F (n - 1)) (e9 : ∀ args w, (callFunc (ρ.f 9) args).run P w = .ok (.enter (ρ.f 9) args) w) (g : Nat) (lb : Array Value) (hFg : F.fn g) (eg : ∀ args w, (callFunc g args).run P w = .ok (.enter g args) w)
  (zs : List Int) (hN : zs.length ≤ maxLen) (hNb : zs.length * 8 ≤ 140737488355328) (w : World) (hseq : vs.Gives F (n - 1 - 1 - 1) P g lb zs w) :
  CallsIn F n P (ρ.f 6) #[.func (.func g) #[] lb] w fun e w' => ∃ v : Value, e = .returned v ∧ w'.ownsRow w.heap.size (ρ.t 26) 1 v zs.length ((zs.mergeSort (fun x y => decide (x ≤ y))).map encZ) ∧ Below w.heap.size w w' := by
 have h1 : 1 ≤ n := by omega
 have e8 : ∀ args w, (callFunc (ρ.f 8) args).run P w = .ok (.enter (ρ.f 8) args) w := L.f8.enters rfl
 have mixed := L.mixed; have t0 := L.t0; have a0 := L.a0; have z0 := L.z0; have v0 := L.v0; have t24 := L.t24; have a24 := L.a24; have z24 := L.z24; have v24 := L.v24; have t26 := L.t26; have a26 := L.a26; have z26 := L.z26; have v26 := L.v26; have t28 := L.t28; have a28 := L.a28; have z28 := L.z28; have v28 := L.v28
 have u0 := run_underlying L.t0; have u24 := run_underlying L.t24; have u26 := run_underlying L.t26; have u28 := run_underlying L.t28
 obtain ⟨_, _, FG⟩ := L.f6
 refine callsIn_of_wp FG rfl h6 ?_ hro
 simp only [SlBodyZ.n6_ntmps ρ, List.size_toArray, List.length_cons, List.length_nil, Nat.reduceAdd, Nat.reduceSub, Array.replicate_succ, Array.replicate_zero, List.push_toArray, List.append_toArray, List.nil_append, List.cons_append]
 gi_wp2_with (gi_at_fn (ρ.f 8); refine (vs.collect { L with } F (n - 1) h8 h11 hro (by omega) g lb hFg eg zs hN hNb _ hseq).mono ?_; rintro e W ⟨v, rfl, hrow, hb⟩)
 rcases hrow.2 with ⟨rfl, hz⟩ | ⟨gb, cap, cur, rfl, hbase, hgb, r1, r2, r3, r4⟩
 ·have hss : zs = [] := List.eq_nil_of_length_eq_zero hz
  subst hss
  gi_wp2_with (gi_at_fn (ρ.f 9); refine (hsort.2 none 0 W).mono ?_; rintro e w' ⟨rfl, rfl⟩)
  go_ret
  exact ⟨.slice none 0 0, rfl, by simpa using hrow, hb⟩
 ·have hH : Holds encZ W gb 0 zs.toArray := holds_of_block_i hgb (by simpa using r4)
  have hgl : gb < W.heap.size := (Array.getElem?_eq_some_iff.1 hgb).1
  have hsz : zs.length < 4611686018427387904 := by omega
  have cS := hsort.1 gb 0 cap zs W hH hgl hsz
  gi_wp2_with (gi_at_fn (ρ.f 9); refine cS.mono ?_; rintro e w' ⟨rfl, nn, os, rfl⟩)
  go_ret
  exact ⟨_, rfl, ownsRow_sorted_i (by simp) hbase hgb r1 r2 r3, hb.grown (grownBy_sorted_i _) hb.size (fun j hj => by cases hj; exact hbase)⟩
theorem vs.valuesOf (A : Option Addr) (n c : Nat) (w : World) :
  Calls Tryz.prog 64 #[.slice A n c] w fun e w' => e = .returned (.func (.func 89) #[] #[.pointer (some ⟨w.heap.size, 0, none⟩)]) ∧ w' = w.alloc (.cells #[.slice A n c] 22) :=
 (callsIn_wide (n := 5)).1 (vs.values 5 A n c w)
theorem vs.yZ (A : Option Addr) (c : Nat) (zs : List Int) (w : World) (hC : Kd.C (Kd.int .i64) w A zs.length zs) (h0 : 0 < zs.length) (hs : zs.length ≤ 1000000) :
  Calls Tryz.prog 63 #[.func (.func 89) #[] #[.pointer (some ⟨w.heap.size, 0, none⟩)]] (w.alloc (.cells #[.slice A zs.length c] 22)) fun e w' => ∃ v : Value, e = .returned v ∧ Kd.R (Kd.int .i64) 2 w' w.heap.size (fun _ => True) v (zs.mergeSort (fun x y => decide (x ≤ y))) ∧ Below w.heap.size w w' := by
 refine (callsIn_wide (n := 5)).1 ?_
 obtain ⟨ad, rfl, hc0⟩ := Kd.eF hC 0 (by omega) (by omega)
 obtain ⟨b, off, spot⟩ := ad
 have hspot : spot = none := by simpa [Addr.add] using World.cell?_spot hc0
 subst hspot
 have hb : b < w.heap.size := World.block_lt_of_cell? _ _ hc0
 obtain ⟨w1, hw1⟩ : ∃ w1, w.alloc (.cells #[.slice (some ⟨b, off, none⟩) zs.length c] 22) = w1 := ⟨_, rfl⟩
 have hB : Below w.heap.size w w1 := by rw [← hw1]; exact aN (Below.refl _ _) _
 have hn : w1.cell? ⟨w.heap.size, 0, none⟩ = some (.slice (some ⟨b, off, none⟩) zs.length c) := by rw [← hw1]; exact (World.cell?_alloc_at _ _ _ _ rfl).trans rfl
 have hl : w.heap.size < w1.heap.size := by rw [← hw1]; simp
 rw [hw1]
 have hcs : ∀ j, j < zs.length → w1.cell? ⟨b, off + j, none⟩ = some (.int .i64 (zs[j]?.getD 0)) := by
  intro j hj
  obtain ⟨ad, e, hc⟩ := Kd.eF hC (j : Int) (by omega) (by omega)
  obtain rfl := Option.some.inj e
  rw [Int.toNat_natCast, Go.WideShapes.add_plain] at hc
  have e2 : zs.getD ((j : Int).toNat) 0 = zs[j]?.getD 0 := by rw [Int.toNat_natCast, List.getD_eq_getElem?_getD]
  rw [← e2]
  exact (hB.cell (p := ⟨b, off + j, none⟩) hb).trans hc
 have hseq := vs.zw 2 (by omega) w.heap.size b off c zs (by omega) w1 hl (by omega) hn hcs
 have hr := vs.sorted_in vs.sorted Fence.wide 5 trivial trivial trivial trivial rfl (by omega) (vs.sorts _) (enters_of Tryz.func88 (by kernel_rfl) rfl) 89 #[.pointer (some ⟨w.heap.size, 0, none⟩)] trivial (enters_of Tryz.func89 (by kernel_rfl) rfl) zs (by have : maxLen = 9223372036854775807 := rfl; omega) (by omega) w1 hseq
 refine hr.mono ?_
 rintro e w' ⟨v, rfl, ho, hb2⟩
 have hlm : (zs.mergeSort (fun x y => decide (x ≤ y))).length = zs.length := List.length_mergeSort zs
 have ho2 : w'.ownsRow w.heap.size 2 1 v zs.length ((zs.mergeSort (fun x y => decide (x ≤ y))).map encZ) := qo ho (by omega)
 rw [← hlm] at ho2
 exact ⟨v, rfl, Kd.iJ ho2 (fun _ _ => trivial), hB.trans (hb2.mono (by omega))⟩
end
def fD.f (l0 : List Int) : Option (List Int) := if 0 < l0.length then (if l0.length ≤ 1000000 then some (l0.mergeSort (fun x y => decide (x ≤ y))) else none) else none
theorem fD.calls (A0 : Option Addr) (c0 : Nat) (l0 : List Int) (r : List Int) (w : World) (hr0 : Kd.C (Kd.int .i64) w A0 l0.length l0) (hc0 : l0.length ≤ c0) (h : fD.f l0 = some r) :
  Calls Tryz.prog 63 #[.func (.func 89) #[] #[.pointer (some ⟨w.heap.size, 0, none⟩)]] (w.alloc (.cells #[.slice A0 l0.length c0] 22)) fun e w' => ∃ v0_ : Value, e = .returned (v0_) ∧ Kd.R (Kd.int .i64) 2 w' w.heap.size (fun _ => True) v0_ r ∧ Below w.heap.size w w' := by
 unfold fD.f at h
 by_cases h1 : 0 < l0.length
 ·rw [if_pos h1] at h
  by_cases h2 : l0.length ≤ 1000000
  ·rw [if_pos h2] at h
   obtain rfl := Option.some.inj h
   exact vs.yZ A0 c0 l0 w hr0 h1 h2
  ·rw [if_neg h2] at h; cases h
 ·rw [if_neg h1] at h; cases h
def ru : Go.Shelf.Ren := ⟨fun | 4 => 90 | n => n, fun | 22 => 22 | 25 => 2 | 3 => 3 | 4 => 4 | 9 => 9 | 20 => 20 | 0 => 0 | n => n, fun | n => n⟩
theorem rX : Go.Proofs.Lays8.n4 Tryz.prog ru := {
 mixed := by kernel_rfl
 f4 := ⟨Tryz.f90.name, by decide, Tryz.func90.trans (congrArg some (by kernel_rfl))⟩
 t0 := Tryz.underlying0
 a0 := Tryz.isAgg0
 z0 := Tryz.sizeOf0
 v0 := Tryz.zeroValue0
 t3 := Tryz.underlying3
 a3 := Tryz.isAgg3
 z3 := Tryz.sizeOf3
 v3 := Tryz.zeroValue3
 t4 := Tryz.underlying4
 a4 := Tryz.isAgg4
 z4 := Tryz.sizeOf4
 v4 := Tryz.zeroValue4
 t9 := Tryz.underlying9
 a9 := Tryz.isAgg9
 z9 := Tryz.sizeOf9
 v9 := Tryz.zeroValue9
 t20 := Tryz.underlying20
 a20 := Tryz.isAgg20
 z20 := Tryz.sizeOf20
 v20 := Tryz.zeroValue20
 t22 := Tryz.underlying22
 a22 := Tryz.isAgg22
 z22 := Tryz.sizeOf22
 v22 := Tryz.zeroValue22 }
def fG.f (l0 : List Int) (a1 : Int) : Option (List Int) := if l0 = [] then (if 0 ≤ a1 then (if a1 ≤ 1000000 then some [] else none) else none) else none
theorem fG.calls (P0_ : Nat → Prop) (u_ : Value) (l0 : List Int) (a1 : Int) (r : List Int) (w0 w : World) (hB : Below w0.heap.size w0 w) (ho0 : Kd.R (Kd.int .i64) 2 w w0.heap.size P0_ u_ l0) (h : fG.f l0 a1 = some r) :
  Calls Tryz.prog 90 #[u_, .int .i64 a1] w fun e w' => ∃ v0_ : Value, e = .returned (v0_) ∧ Kd.R (Kd.int .i64) 2 w' w0.heap.size (fun k_ => (P0_ k_ ∨ w.heap.size ≤ k_)) v0_ r ∧ Below w0.heap.size w0 w' ∧ Kept w w' (fun k_ => P0_ k_) := by
 unfold fG.f at h
 by_cases c1 : l0 = []
 ·rw [if_pos c1] at h
  by_cases c2 : 0 ≤ a1
  ·rw [if_pos c2] at h
   by_cases c3 : a1 ≤ 1000000
   ·rw [if_pos c3] at h
    subst c1
    obtain rfl := Option.some.inj h
    clear h
    obtain ⟨n, rfl⟩ := Int.eq_ofNat_of_zero_le c2
    have hw := hB.size
    obtain ⟨i0, hi0, hz0, hz1, hz2⟩ := info_parts (show (Tryz.prog.info? 2).map (fun i => (i.zero, i.size, i.bytes)) = some (some (.int .i64 0), 1, 8) by kernel_rfl)
    have key : ∀ (base : Option Addr) (c : Nat) (cs : List Value), u_ = .slice base 0 c → c ≤ maxLen → cs.length = c → (base = none → c = 0) → (∀ a, base = some a → ∀ j v, cs[j]? = some v → w.cell? (a.add j) = some v) → Calls Tryz.prog 90 #[u_, .int .i64 (n : Int)] w fun e w' => ∃ v0_ : Value, e = .returned (v0_) ∧ Kd.R (Kd.int .i64) 2 w' w0.heap.size (fun k_ => (P0_ k_ ∨ w.heap.size ≤ k_)) v0_ [] ∧ Below w0.heap.size w0 w' ∧ Kept w w' (fun k_ => P0_ k_) := by
     intro base c cs hu hmx hcl hnil hcs
     subst hu
     by_cases hr : 0 + n ≤ c
     ·have hcon := Go.Proofs.Any8.slices_Grow_room rX base 0 c n w (Nat.zero_le _) (by simpa [maxLen] using hmx) (by omega) hr
      change Calls Tryz.prog 90 _ _ _ at hcon
      refine hcon.mono ?_
      rintro e w' ⟨rfl, rfl⟩
      exact ⟨_, rfl, Kd.ae ho0 (fun _ hk => .inl hk), hB, Kept.refl _ _⟩
     ·have hcon := Go.Proofs.Any8.slices_Grow_grow rX i0 (.int .i64 0) hi0 hz0 (by omega) base 0 c n cs w (Nat.zero_le _) (by omega) (by rw [hz2]; omega) (by omega) (by rw [hz1, hcl]; omega) hnil hcs
      change Calls Tryz.prog 90 _ _ _ at hcon
      refine hcon.mono ?_
      rintro e w' ⟨rfl, rfl⟩
      have hge := grownCap_ge w (0 + n) c 2
      have hle := grownCap_le_maxLen w (0 + n) c 2 (by unfold maxLen; omega)
      refine ⟨_, rfl, Kd.iJ ⟨by simp [encs], .inr ⟨w.heap.size, _, _, rfl, hw, heap_alloc_new _ _, Nat.zero_le _, hle, ?_, by simp [encs]⟩⟩ (fun k hk => .inr ?_), (hB.drew).alloc hw _, (Kept.refl w _).below (((Below.refl _ _).drew).alloc (Nat.le_refl _) _)⟩
      ·rw [Array.size_append, Array.size_append, size_zeroCells, size_zeroCells, List.size_toArray, hcl]
       show c + (0 + n - c) * 1 + (grownCap w (0 + n) c 2 - (0 + n)) * 1 = grownCap w (0 + n) c 2 * 1
       omega
      ·simp [Value.ownBlock] at hk
       omega
    obtain ⟨_, ho⟩ := Kd.fF ho0
    rcases ho with ⟨hv, _⟩ | ⟨g, cap, cur, hv, hg, hh, hn, hm, hsz, _⟩
    ·exact key none 0 [] hv (Nat.zero_le _) rfl (fun _ => rfl) (fun a ha => by cases ha)
    ·refine key (some ⟨g, 0, none⟩) cap cur.toList hv hm (by simp [hsz]) (fun ha => by cases ha) ?_
     intro a ha j v hj
     injection ha with ha
     subst ha
     have e : (⟨g, 0, none⟩ : Addr).add j = ⟨g, j, none⟩ := by
      unfold Addr.add
      split
      ·rename_i h0
       rw [h0]
      ·simp
     rw [e]
     simp only [World.cell?, hh]
     simpa using hj
   ·rw [if_neg c3] at h
    exact absurd h (by simp)
  ·rw [if_neg c2] at h
   exact absurd h (by simp)
 ·rw [if_neg c1] at h
  exact absurd h (by simp)
end Go.Proofs.YtkpidjmhdagkfaaGreatDoor.QFnImposed
