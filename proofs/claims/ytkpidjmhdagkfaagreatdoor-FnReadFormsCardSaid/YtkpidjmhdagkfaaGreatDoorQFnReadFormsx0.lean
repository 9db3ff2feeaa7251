-- Written by own_print.py of this session's repo over the kit's print (its output, turned at some places).
import Derived.Test.YtkpidjmhdagkfaaGreatDoorProg
import Derived.Below
import Derived.Deep.Draws
import Derived.Deep.AppendLies
import Derived.Maps.AppendAt
import Derived.OwnWalk
import Derived.Laws.BytesArg
import Derived.Laws.MakeOwn
import Derived.Laws.OwnMore
import Derived.Deep.OwnRows
import Derived.Tactics
import Derived.Lib.ConvBytes
import Derived.Laws.Slices
import Derived.WalkKit
import Derived.KernelRfl
import Derived.RowKit3
import Derived.Deep.LoopGhost
import Derived.Deep.QuietTactic
import Derived.BigQuiet
import Derived.WideLaws
import Derived.Deep.DeepCutAuto
import Derived.Deep.CutBlock
import Derived.Deep.RegionHeld3
import Derived.Laws.Rows
import Derived.Lib.AppendStr
import Derived.ArgAppend
import Derived.Laws.IdiomCopy
import Derived.OrdersHeld
import Derived.Laws.BitsLemmas
import Derived.RowKit
import Derived.Shelf.SlIterI.Sorted
import Derived.Shelf.SortM.Plain
import Derived.Shelf.SortM.SortNone
import Derived.Ground.GgzProg
import Derived.Ground.SlgmProg
import Derived.RangeFuncBox
import Derived.RangeFuncLeaves
import Derived.Shelf.Abstract
import Derived.OwnWalkIn
import Derived.TacticsInMore
import Derived.LoopNIn
import Derived.LoopIn
import Derived.Deep.Slices
import Derived.Shelf.Spec.SlicesGrow
import Derived.Shelf.Strings.SlTrimAscii
import Derived.Shelf.Strings.Count
import Derived.Lib.Builder
import Derived.Lib.OthersKept
import Derived.Test.YtkpidjmhdagkfaaGreatDoorWWords
import Derived.Test.YtkpidjmhdagkfaaGreatDoorWLast
import Derived.Test.YtkpidjmhdagkfaaGreatDoorWTab
import Derived.Test.YtkpidjmhdagkfaaGreatDoorWFour
import Derived.Test.YtkpidjmhdagkfaaGreatDoorWQPut
import Derived.Test.YtkpidjmhdagkfaaGreatDoorWApart
import Derived.Test.YtkpidjmhdagkfaaGreatDoorWArr
import Derived.Test.YtkpidjmhdagkfaaGreatDoorWZeros
import Derived.Test.YtkpidjmhdagkfaaGreatDoorWFoot
import Derived.Test.YtkpidjmhdagkfaaGreatDoorWKept
import Derived.Test.YtkpidjmhdagkfaaGreatDoorWShare
import Derived.Test.YtkpidjmhdagkfaaGreatDoorWN
import Derived.Test.YtkpidjmhdagkfaaGreatDoorWFootNe
import Derived.Test.YtkpidjmhdagkfaaGreatDoorWAt
import Derived.Test.YtkpidjmhdagkfaaGreatDoorWEqStruct
import Derived.Test.YtkpidjmhdagkfaaGreatDoorWRepsOne
import Derived.Test.YtkpidjmhdagkfaaGreatDoorWInv
import Derived.Test.YtkpidjmhdagkfaaGreatDoorWInvWords
import Derived.Test.YtkpidjmhdagkfaaGreatDoorWGuard
import Derived.Test.YtkpidjmhdagkfaaGreatDoorWNEv
import Derived.Test.YtkpidjmhdagkfaaGreatDoorWMore
namespace Go.Proofs.YtkpidjmhdagkfaaGreatDoor.QFnReadForms
open Go.RowKit Go.Proofs.YtkpidjmhdagkfaaGreatDoorW.PrintWords Go.Proofs.YtkpidjmhdagkfaaGreatDoorW.PrintLast Go.Proofs.YtkpidjmhdagkfaaGreatDoorW.PrintMore
attribute [local go_sem] ik iq iR iT gD gF il iw
set_option linter.unusedVariables false
set_option linter.unusedSimpArgs false
def Cy : Option Int → Value
  | none => .nilIface
  | some c => .iface 0 (.int .i64 c)
theorem gV : Cy none = .nilIface := rfl
theorem gW (c : Int) : Cy (some c) = .iface 0 (.int .i64 c) := rfl
theorem jc : (Tryz.prog.info? 2).map (fun i => (i.zero, i.size, i.bytes)) = some (some (.int .i64 0), 1, 8) := by kernel_rfl
theorem info5 : (Tryz.prog.info? 5).map (fun i => (i.zero, i.size, i.bytes)) = some (some (.int .u8 0), 1, 1) := by kernel_rfl
theorem oG : (Tryz.prog.info? 9).map (fun i => (i.zero, i.size, i.bytes)) = some (some (.string ⟨#[]⟩), 1, 16) := by kernel_rfl
theorem Dn : (Tryz.prog.info? 22).map (fun i => (i.zero, i.size, i.bytes)) = some (some (.slice none 0 0), 1, 24) := by kernel_rfl
theorem nW : (Tryz.prog.info? 61).map (fun i => (i.zero, i.size, i.bytes)) = some (some (.slice none 0 0), 1, 24) := by kernel_rfl
theorem lN : (Tryz.prog.info? 64).map (fun i => (i.zero, i.size, i.bytes)) = some (some (.agg #[(.int .i64 0), (.int .i64 0), (.bool false), (.bool false)]), 4, 24) := by kernel_rfl
theorem pz : (Tryz.prog.info? 96).map (fun i => (i.zero, i.size, i.bytes)) = some (some (.slice none 0 0), 1, 24) := by kernel_rfl
-- the values' own types
structure S64 where
  f0 : Int
  f1 : Int
  f2 : Bool
  f3 : Bool
def z64 : S64 := ⟨(0 : Int), (0 : Int), false, false⟩
def k64 : Kd S64 := Kd.iso (Kd.pair (Kd.int .i64) (Kd.pair (Kd.int .i64) (Kd.pair Kd.bool Kd.bool))) (fun x : S64 => (x.f0, x.f1, x.f2, x.f3))
theorem CB : Kd.Heap k64 := Kd.yI _ (Kd.pq (Kd.jb .i64) (Kd.pq (Kd.jb .i64) (Kd.pq Kd.sU Kd.sU)))
theorem yM {w : World} {x : S64} {cs : List Value} (h : k64.K w x cs) : cs = [.int .i64 x.f0, .int .i64 x.f1, .bool x.f2, .bool x.f3] := by
  obtain ⟨_, _, rfl, rfl, ⟨_, _, rfl, rfl, ⟨_, _, rfl, rfl, rfl⟩⟩⟩ := h
  exact rfl
theorem Cg {w : World} {base : Nat} {ok : Nat → Prop} {x : S64} {cs : List Value} (h : k64.M w base ok x cs) : cs = [.int .i64 x.f0, .int .i64 x.f1, .bool x.f2, .bool x.f3] := by
  obtain ⟨_, _, rfl, rfl, ⟨_, _, rfl, rfl, ⟨_, _, rfl, rfl, rfl⟩⟩⟩ := h
  exact rfl
theorem Bg (w : World) (x : S64)  : k64.K w x [.int .i64 x.f0, .int .i64 x.f1, .bool x.f2, .bool x.f3] := ⟨[.int .i64 x.f0], [.int .i64 x.f1, .bool x.f2, .bool x.f3], rfl, rfl, ⟨[.int .i64 x.f1], [.bool x.f2, .bool x.f3], rfl, rfl, ⟨[.bool x.f2], [.bool x.f3], rfl, rfl, rfl⟩⟩⟩
theorem nk (w : World) (base : Nat) (ok : Nat → Prop) (x : S64)  : k64.M w base ok x [.int .i64 x.f0, .int .i64 x.f1, .bool x.f2, .bool x.f3] := ⟨[.int .i64 x.f0], [.int .i64 x.f1, .bool x.f2, .bool x.f3], rfl, rfl, ⟨[.int .i64 x.f1], [.bool x.f2, .bool x.f3], rfl, rfl, ⟨[.bool x.f2], [.bool x.f3], rfl, rfl, rfl⟩⟩⟩
theorem CY (W : World) (ok : Nat → Prop) (x : S64) : Kd.FK k64 W ok x [.int .i64 x.f0, .int .i64 x.f1, .bool x.f2, .bool x.f3] := fun W2 _ => Bg W2 x
def aa (xs : List S64) (i : Int) : S64 := xs.getD i.toNat z64
theorem qP {w : World} {A : Option Addr} {n : Nat} {xs : List S64} (h : Kd.C k64 w A n xs) (i : Int) (h0 : 0 ≤ i) (h1 : i < n) : ∃ ad , A = some ad ∧ w.cell? (ad.add (i.toNat * 4)) = some (.int .i64 (aa xs i).f0) ∧ w.cell? ⟨(ad.add (i.toNat * 4)).block, (ad.add (i.toNat * 4)).off + 1, none⟩ = some (.int .i64 (aa xs i).f1) ∧ w.cell? ⟨(ad.add (i.toNat * 4)).block, (ad.add (i.toNat * 4)).off + 2, none⟩ = some (.bool (aa xs i).f2) ∧ w.cell? ⟨(ad.add (i.toNat * 4)).block, (ad.add (i.toNat * 4)).off + 3, none⟩ = some (.bool (aa xs i).f3) := by
  obtain ⟨ad, c, e, _, hK, hc0⟩ := Kd.sG h z64 i h0 h1
  have hc : ∀ j u, c[j]? = some u → w.cell? (ad.add (i.toNat * 4 + j)) = some u := hc0
  obtain rfl := yM hK
  exact ⟨ad, e, hc 0 _ rfl, by rw [← oZ _ _ 1 (by omega)]; exact hc 1 _ rfl, by rw [← oZ _ _ 2 (by omega)]; exact hc 2 _ rfl, by rw [← oZ _ _ 3 (by omega)]; exact hc 3 _ rfl⟩
def dY (xs : List (List S64)) (i : Int) : (List S64) := xs.getD i.toNat ([] : List S64)
theorem kT {w : World} {A : Option Addr} {n : Nat} {xs : List (List S64)} (h : Kd.C (Kd.slice 64 k64) w A n xs) (i : Int) (h0 : 0 ≤ i) (h1 : i < n) : ∃ ad A0 c0, A = some ad ∧ w.cell? (ad.add i.toNat) = some (.slice A0 (dY xs i).length c0) ∧ (dY xs i).length ≤ c0 ∧ k64.C w A0 (dY xs i).length (dY xs i) := by
  obtain ⟨ad, c, e, _, hK, hc0⟩ := Kd.sG h ([] : List S64) i h0 h1
  have hc : ∀ j u, c[j]? = some u → w.cell? (ad.add (i.toNat * 1 + j)) = some u := hc0
  obtain ⟨A0, c0, rfl, l0, g0⟩ := hK
  exact ⟨ad, A0, c0, e, by have hq := hc 0 _ rfl; rwa [Nat.mul_one, Nat.add_zero] at hq, l0, g0⟩
def bJ (xs : List (List (List S64))) (i : Int) : (List (List S64)) := xs.getD i.toNat ([] : List (List S64))
theorem kD {w : World} {A : Option Addr} {n : Nat} {xs : List (List (List S64))} (h : Kd.C (Kd.slice 61 (Kd.slice 64 k64)) w A n xs) (i : Int) (h0 : 0 ≤ i) (h1 : i < n) : ∃ ad A0 c0, A = some ad ∧ w.cell? (ad.add i.toNat) = some (.slice A0 (bJ xs i).length c0) ∧ (bJ xs i).length ≤ c0 ∧ (Kd.slice 64 k64).C w A0 (bJ xs i).length (bJ xs i) := by
  obtain ⟨ad, c, e, _, hK, hc0⟩ := Kd.sG h ([] : List (List S64)) i h0 h1
  have hc : ∀ j u, c[j]? = some u → w.cell? (ad.add (i.toNat * 1 + j)) = some u := hc0
  obtain ⟨A0, c0, rfl, l0, g0⟩ := hK
  exact ⟨ad, A0, c0, e, by have hq := hc 0 _ rfl; rwa [Nat.mul_one, Nat.add_zero] at hq, l0, g0⟩
def lC (xs : List (List Int)) (i : Int) : (List Int) := xs.getD i.toNat ([] : List Int)
theorem Aj {w : World} {A : Option Addr} {n : Nat} {xs : List (List Int)} (h : Kd.C (Kd.slice 2 (Kd.int .i64)) w A n xs) (i : Int) (h0 : 0 ≤ i) (h1 : i < n) : ∃ ad A0 c0, A = some ad ∧ w.cell? (ad.add i.toNat) = some (.slice A0 (lC xs i).length c0) ∧ (lC xs i).length ≤ c0 ∧ (Kd.int .i64).C w A0 (lC xs i).length (lC xs i) := by
  obtain ⟨ad, c, e, _, hK, hc0⟩ := Kd.sG h ([] : List Int) i h0 h1
  have hc : ∀ j u, c[j]? = some u → w.cell? (ad.add (i.toNat * 1 + j)) = some u := hc0
  obtain ⟨A0, c0, rfl, l0, g0⟩ := hK
  exact ⟨ad, A0, c0, e, by have hq := hc 0 _ rfl; rwa [Nat.mul_one, Nat.add_zero] at hq, l0, g0⟩
abbrev nb_ (k : Nat) (a : Option Addr) (n c : Nat) : Prop := some k ≠ (Value.slice a n c).ownBlock
theorem ra_ {P Q : Prop} (h : P) (k : P → Q := by (intro h_; (with_reducible repeat (first | apply Kd.aC | apply Kd.aD | apply Kd.az)); exact h_)) : Q := k h
theorem rc_ {P Q : Prop} (k : P → Q := by (intro h_; (with_reducible repeat (first | apply Kd.aC | apply Kd.aD | apply Kd.az)); exact h_)) (h : P) : Q := k h
theorem iI {P Q : Prop} (k : P → Q := by (intro h_; (with_reducible repeat (first | refine dz ?_ _ | refine bU ?_ | refine dx ?_ _)); exact h_)) (h : P) : Q := k h
theorem kc_ {P Q : Prop} (h : P) (k : P → Q := by (intro h_; repeat (first | exact h_ | (with_reducible refine Kd.dH ?_ _) | (with_reducible refine Kd.dJ ?_ _) | (with_reducible refine Kd.dX ?_)))) : Q := k h
theorem rb_ {P Q : Prop} (h : P) (k : P → Q := by (intro h_; (with_reducible repeat (first | refine dz ?_ _ | refine bU ?_ | refine dx ?_ _)); exact h_)) : Q := k h
theorem rh_ {P Q R : Prop} (e_ : R) (H : P) (k : R → P → Q := by (intro he_ H; first | (rw [he_]; with_reducible exact H) | (have H2_ := (Option.bind_some _ _).symm.trans H; rw [he_]; with_reducible exact H2_) | (have H2_ := (Option.bind_some _ _).symm.trans H; with_reducible exact H2_) | with_reducible exact H | (rw [he_]; exact H) | exact H)) : Q := k e_ H
theorem nm_ {P : Program} {ops : Array Oper} {Q : Exit → Act → World → Prop} {md : Region.Mode} {S : World → Prop} {ds : List Nat} {fuel : Nat} {l : Array Bool} {a a' : Act} {w : World} (h : dB P md ops Q S ds fuel l a' w) (ha : a = a' := by (show Act.put _ (some _) _ = _; simp only [Act.put, List.setIfInBounds_toArray, List.set_cons_zero, List.set_cons_succ, eU, gX]; rfl)) : dB P md ops Q S ds fuel l a w := CK ha h
def Cx : Nat → Nat → List Bool
  | 0, _ => []
  | n + 1, k => Nat.beq (k % 2) 1 :: Cx n (k / 2)
def bs_ (n k : Nat) : Array Bool := ⟨Cx n k⟩
theorem a_ {P : Prop} (h : P) : ah P := ah.mk h
theorem oz {w : World} {g : Nat} {t : TypeId} {v0 v1 v2 v3 : Value} (h : w.heap[g]? = some (.cells #[v0, v1, v2, v3] t (0, 0))) : w.cell? ⟨g, 0, none⟩ = some v0 ∧ w.cell? ⟨g, 1, none⟩ = some v1 ∧ w.cell? ⟨g, 2, none⟩ = some v2 ∧ w.cell? ⟨g, 3, none⟩ = some v3 ∧ w.frozen? ⟨g, 0, none⟩ = false ∧ w.frozen? ⟨g, 1, none⟩ = false ∧ w.frozen? ⟨g, 2, none⟩ = false ∧ w.frozen? ⟨g, 3, none⟩ = false := ⟨(ai h 0).trans rfl, (ai h 1).trans rfl, (ai h 2).trans rfl, (ai h 3).trans rfl, bG h 0, bG h 1, bG h 2, bG h 3⟩
theorem eH {w : World} {g : Nat} {t : TypeId} {v0 v1 v2 v3 v4 : Value} (h : w.heap[g]? = some (.cells #[v0, v1, v2, v3, v4] t (0, 0))) : w.cell? ⟨g, 0, none⟩ = some v0 ∧ w.cell? ⟨g, 1, none⟩ = some v1 ∧ w.cell? ⟨g, 2, none⟩ = some v2 ∧ w.cell? ⟨g, 3, none⟩ = some v3 ∧ w.cell? ⟨g, 4, none⟩ = some v4 ∧ w.frozen? ⟨g, 0, none⟩ = false ∧ w.frozen? ⟨g, 1, none⟩ = false ∧ w.frozen? ⟨g, 2, none⟩ = false ∧ w.frozen? ⟨g, 3, none⟩ = false ∧ w.frozen? ⟨g, 4, none⟩ = false := ⟨(ai h 0).trans rfl, (ai h 1).trans rfl, (ai h 2).trans rfl, (ai h 3).trans rfl, (ai h 4).trans rfl, bG h 0, bG h 1, bG h 2, bG h 3, bG h 4⟩
theorem uF {α : Type} {d : Kd α} {e : TypeId} {w : World} {base : Nat} {ok : Nat → Prop} {v : Value} {xs : List α} {g t : Nat} {cells : Array Value} {v0 v1 v2 v3 : Value} (h : d.R e w base ok v xs) (hb : w.heap[g]? = some (.cells cells t (0, 0))) (ht : ∀ q, q ∈ e :: d.E → q ≠ t := by decide) : d.R e ((((w.setCell ⟨g, 0, none⟩ v0).setCell ⟨g, 1, none⟩ v1).setCell ⟨g, 2, none⟩ v2).setCell ⟨g, 3, none⟩ v3) base (fun k => ok k ∧ k ≠ g) v xs := Kd.bV (p := ⟨g, 3, none⟩) (Kd.bV (p := ⟨g, 2, none⟩) (Kd.bV (p := ⟨g, 1, none⟩) (Kd.bV (p := ⟨g, 0, none⟩) (Kd.eT h hb ht) (fun _ hk => hk.2) v0) (fun _ hk => hk.2) v1) (fun _ hk => hk.2) v2) (fun _ hk => hk.2) v3
theorem gB {α : Type} {d : Kd α} {e : TypeId} {w : World} {base : Nat} {ok : Nat → Prop} {v : Value} {xs : List α} {g t : Nat} {cells : Array Value} {v0 v1 v2 v3 v4 : Value} (h : d.R e w base ok v xs) (hb : w.heap[g]? = some (.cells cells t (0, 0))) (ht : ∀ q, q ∈ e :: d.E → q ≠ t := by decide) : d.R e (((((w.setCell ⟨g, 0, none⟩ v0).setCell ⟨g, 1, none⟩ v1).setCell ⟨g, 2, none⟩ v2).setCell ⟨g, 3, none⟩ v3).setCell ⟨g, 4, none⟩ v4) base (fun k => ok k ∧ k ≠ g) v xs := Kd.bV (p := ⟨g, 4, none⟩) (Kd.bV (p := ⟨g, 3, none⟩) (Kd.bV (p := ⟨g, 2, none⟩) (Kd.bV (p := ⟨g, 1, none⟩) (Kd.bV (p := ⟨g, 0, none⟩) (Kd.eT h hb ht) (fun _ hk => hk.2) v0) (fun _ hk => hk.2) v1) (fun _ hk => hk.2) v2) (fun _ hk => hk.2) v3) (fun _ hk => hk.2) v4
theorem nS {w : World} {g : Nat} {t : TypeId} {a0 a1 a2 a3 v0 v1 v2 v3 : Value} (h : w.heap[g]? = some (.cells #[a0, a1, a2, a3] t (0, 0))) : (((((w.setCell ⟨g, 0, none⟩ v0).setCell ⟨g, 1, none⟩ v1).setCell ⟨g, 2, none⟩ v2).setCell ⟨g, 3, none⟩ v3)).heap[g]? = some (.cells #[v0, v1, v2, v3] t (0, 0)) := fP (fP (fP (fP (h) 0 v0 rfl) 1 v1 rfl) 2 v2 rfl) 3 v3 rfl
theorem je {w : World} {g : Nat} {t : TypeId} {a0 a1 a2 a3 a4 v0 v1 v2 v3 v4 : Value} (h : w.heap[g]? = some (.cells #[a0, a1, a2, a3, a4] t (0, 0))) : ((((((w.setCell ⟨g, 0, none⟩ v0).setCell ⟨g, 1, none⟩ v1).setCell ⟨g, 2, none⟩ v2).setCell ⟨g, 3, none⟩ v3).setCell ⟨g, 4, none⟩ v4)).heap[g]? = some (.cells #[v0, v1, v2, v3, v4] t (0, 0)) := fP (fP (fP (fP (fP (h) 0 v0 rfl) 1 v1 rfl) 2 v2 rfl) 3 v3 rfl) 4 v4 rfl
theorem AX {w : World} {g g' : Nat} {t : TypeId} {cs : Array Value} {o0 : Nat} {v0 : Value} (hn : g ≠ g') (h : w.heap[g]? = some (.cells cs t (0, 0))) : ((w.setCell ⟨g', o0, none⟩ v0)).heap[g]? = some (.cells cs t (0, 0)) := gu (p := ⟨g', o0, none⟩) (h) hn v0
theorem uP {w : World} {g g' : Nat} {t : TypeId} {cs : Array Value} {o0 o1 o2 o3 : Nat} {v0 v1 v2 v3 : Value} (hn : g ≠ g') (h : w.heap[g]? = some (.cells cs t (0, 0))) : (((((w.setCell ⟨g', o0, none⟩ v0).setCell ⟨g', o1, none⟩ v1).setCell ⟨g', o2, none⟩ v2).setCell ⟨g', o3, none⟩ v3)).heap[g]? = some (.cells cs t (0, 0)) := gu (p := ⟨g', o3, none⟩) (gu (p := ⟨g', o2, none⟩) (gu (p := ⟨g', o1, none⟩) (gu (p := ⟨g', o0, none⟩) (h) hn v0) hn v1) hn v2) hn v3
theorem rR {w : World} {g g' : Nat} {t : TypeId} {cs : Array Value} {o0 o1 o2 o3 o4 : Nat} {v0 v1 v2 v3 v4 : Value} (hn : g ≠ g') (h : w.heap[g]? = some (.cells cs t (0, 0))) : ((((((w.setCell ⟨g', o0, none⟩ v0).setCell ⟨g', o1, none⟩ v1).setCell ⟨g', o2, none⟩ v2).setCell ⟨g', o3, none⟩ v3).setCell ⟨g', o4, none⟩ v4)).heap[g]? = some (.cells cs t (0, 0)) := gu (p := ⟨g', o4, none⟩) (gu (p := ⟨g', o3, none⟩) (gu (p := ⟨g', o2, none⟩) (gu (p := ⟨g', o1, none⟩) (gu (p := ⟨g', o0, none⟩) (h) hn v0) hn v1) hn v2) hn v3) hn v4
theorem fT {P : Prop} (h : P := by first | rfl | (simp only [Go.IntWalk.i64_left]; first | done | rfl) | (simp; done) | (simp [*]; done)) : P := h
theorem eQ {P : Prop} (h : P := by (repeat (first | exact eY.refl _ | apply eY.step)); first | done | fail) : P := h
theorem bO {P : Prop} (h : P := by (repeat (first | (with_reducible first | exact HB.out | apply aW | apply aN | apply aU) | exact HB.out)); first | done | fail) : P := h
theorem fO {P : Prop} (h : P := by first | rfl | (simp only [Go.IntWalk.i64_left]; first | done | rfl) | (simp [gV, gW] <;> rfl) | (simp [*, gV, gW] <;> rfl)) : P := h
theorem dL {P : Prop} (h : P := by (try simp only [List.map_toArray, List.map_cons, List.map_nil]); first | done | rfl | (simp only [List.length_drop, List.length_take]; rfl)) : P := h
theorem bZ {P : Prop} (h : P := by first | rfl | (simp; done) | (simp [*]; done)) : P := h
theorem aG {P : Prop} (h : P := by first | (with_reducible assumption) | assumption) : P := h
theorem jR {P : Prop} (h : P := by have := HK1.out; omega) : P := h
theorem fG {P : Prop} (h : P := by rw [hg]; exact (af (by repeat (first | (with_reducible first | exact HB.out | apply aW | apply aN | apply aU) | exact HB.out)))) : P := h
theorem Bv {P : Prop} (h : P := by (repeat (first | (with_reducible first | exact HB.out | apply aW | apply aN | apply aU | refine bi ?_ GE113.out) | exact HB.out)); first | done | fail) : P := h
theorem mg {P : Prop} (h : P := by (repeat (first | (with_reducible first | exact HB.out | apply aW | apply aN | apply aU | refine bi ?_ GE118.out) | exact HB.out)); first | done | fail) : P := h
theorem jD {P : Prop} (h : P := by first | omega | exact Nat.le_refl _) : P := h
theorem wP {P : Prop} (h : P := by (with_reducible repeat (first | refine dz ?_ _ | refine bU ?_ | refine dx ?_ _)); exact BK118.out) : P := h
theorem nO {P : Prop} (h : P := by have := HK1.out; first | omega | exact Nat.le_refl _) : P := h
theorem xU {P : Prop} (h : P := by (repeat (first | (with_reducible first | exact HB.out | apply aW | apply aN | apply aU | refine bi ?_ GE140.out) | exact HB.out)); first | done | fail) : P := h
theorem wO {P : Prop} (h : P := by (with_reducible repeat (first | apply Kd.aC | apply Kd.aD | apply Kd.az)); exact Kd.ae HO_5.out (fun _ hk => hk.2)) : P := h
theorem ko {P : Prop} (h : P := by have := HK1.out; have := HK2.out; omega) : P := h
theorem lG {P : Prop} (h : P := by (with_reducible repeat (first | apply Kd.aC | apply Kd.aD | apply Kd.az)); exact HO_5.out) : P := h
theorem xm {P : Prop} (h : P := by (with_reducible repeat (first | apply Kd.gI | apply Kd.gM | apply Kd.gL)); exact HO_8.out) : P := h
theorem Ad {P : Prop} (h : P := by (with_reducible repeat (first | apply Kd.aC | apply Kd.aD | apply Kd.az)); exact Kd.ae HO_6.out (fun _ hk => hk.2)) : P := h
theorem xk {P : Prop} (h : P := by (with_reducible repeat (first | apply Kd.gI | apply Kd.gM | apply Kd.gL)); exact HO_10.out) : P := h
theorem tQ {P : Prop} (h : P := by (with_reducible repeat (first | apply Kd.aC | apply Kd.aD | apply Kd.az)); exact HO_6.out) : P := h
theorem xn {P : Prop} (h : P := by (with_reducible repeat (first | apply Kd.aC | apply Kd.aD | apply Kd.az)); exact HO_7.out) : P := h
theorem xS {P : Prop} (h : P := by (repeat (first | exact (Kd.aH HO_7.out).2.2 | (with_reducible refine Kd.dH ?_ _) | (with_reducible refine Kd.dJ ?_ _) | (with_reducible refine Kd.dX ?_))); first | done | fail) : P := h
theorem mM {P : Prop} (h : P := by (repeat (first | (with_reducible first | exact HB.out | apply aW | apply aN | apply aU | refine bi ?_ GE247.out) | exact HB.out)); first | done | fail) : P := h
theorem zn {P : Prop} (h : P := by (with_reducible repeat (first | refine dz ?_ _ | refine bU ?_ | refine dx ?_ _)); exact BK247.out) : P := h
theorem xQ {P : Prop} (h : P := by rw [hg]; exact (af (by repeat (first | (with_reducible first | exact HB.out | apply aW | apply aN | apply aU | refine bi ?_ GE247.out) | exact HB.out)))) : P := h
theorem lU {P : Prop} (h : P := by have := World.block_lt_of_cell? _ _ hx256_0; first | rwa [add_block] at this | exact this) : P := h
theorem Bz {P : Prop} (h : P := by first | (rw [add_block]; exact hn256_0) | (show (Addr.add _ _).block ≠ _; rw [add_block]; exact hn256_0) | exact hn256_0) : P := h
theorem BA {P : Prop} (h : P := by first | (rw [add_block]; exact hn256_1) | (show (Addr.add _ _).block ≠ _; rw [add_block]; exact hn256_1) | exact hn256_1) : P := h
theorem BB {P : Prop} (h : P := by first | (rw [add_block]; exact hn256_2) | (show (Addr.add _ _).block ≠ _; rw [add_block]; exact hn256_2) | exact hn256_2) : P := h
theorem BC {P : Prop} (h : P := by first | (rw [add_block]; exact hn256_3) | (show (Addr.add _ _).block ≠ _; rw [add_block]; exact hn256_3) | exact hn256_3) : P := h
theorem lV {P : Prop} (h : P := by have := World.block_lt_of_cell? _ _ hx257_0; first | rwa [add_block] at this | exact this) : P := h
theorem BD {P : Prop} (h : P := by first | (rw [add_block]; exact hn257_0) | (show (Addr.add _ _).block ≠ _; rw [add_block]; exact hn257_0) | exact hn257_0) : P := h
theorem BF {P : Prop} (h : P := by first | (rw [add_block]; exact hn257_1) | (show (Addr.add _ _).block ≠ _; rw [add_block]; exact hn257_1) | exact hn257_1) : P := h
theorem BG {P : Prop} (h : P := by first | (rw [add_block]; exact hn257_2) | (show (Addr.add _ _).block ≠ _; rw [add_block]; exact hn257_2) | exact hn257_2) : P := h
theorem BH {P : Prop} (h : P := by first | (rw [add_block]; exact hn257_3) | (show (Addr.add _ _).block ≠ _; rw [add_block]; exact hn257_3) | exact hn257_3) : P := h
theorem iZ {P : Prop} (h : P := by (repeat (first | (with_reducible first | exact HB.out | apply aW | apply aN | apply aU | refine bi ?_ GE247.out | refine bi ?_ GE255.out) | exact HB.out)); first | done | fail) : P := h
theorem Ac {P : Prop} (h : P := by (with_reducible repeat (first | apply Kd.aC | apply Kd.aD | apply Kd.az)); exact Kd.ae HO_5.out (fun _ hk => trivial)) : P := h
theorem wN {P : Prop} (h : P := by (repeat (first | (with_reducible first | exact HB.out | apply aW | apply aN | apply aU | refine bi ?_ GE272.out) | exact HB.out)); first | done | fail) : P := h
theorem zl {P : Prop} (h : P := by (repeat (first | (with_reducible first | exact HB.out | apply aW | apply aN | apply aU | refine bi ?_ GE278.out) | exact HB.out)); first | done | fail) : P := h
theorem rM {P : Prop} (h : P := by (with_reducible repeat (first | apply Kd.mQ | apply Kd.mU | apply Kd.oW)); exact HO0_2.out) : P := h
theorem rO {P : Prop} (h : P := by (with_reducible repeat (first | apply Kd.mQ | apply Kd.mU | apply Kd.oW)); exact HO0_3.out) : P := h
theorem z8 {P : Prop} (h : P := by (repeat (first | exact (Kd.jm HO0_2.out).2.2 | (with_reducible refine Kd.dH ?_ _) | (with_reducible refine Kd.dJ ?_ _) | (with_reducible refine Kd.dX ?_))); first | done | fail) : P := h
theorem Bq {P : Prop} (h : P := by (repeat (first | exact (Kd.jm HO0_3.out).2.2 | (with_reducible refine Kd.dH ?_ _) | (with_reducible refine Kd.dJ ?_ _) | (with_reducible refine Kd.dX ?_))); first | done | fail) : P := h
theorem z0_ {P : Prop} (h : P := by (repeat (first | exact (Kd.bE HR0_4.out (by repeat (first | (with_reducible first | exact HB.out | apply aW | apply aN | apply aU | refine bi ?_ GE291.out) | exact HB.out))) | (with_reducible refine Kd.dH ?_ _) | (with_reducible refine Kd.dJ ?_ _) | (with_reducible refine Kd.dX ?_))); first | done | fail) : P := h
theorem ll {P : Prop} (h : P := by (repeat (first | (with_reducible first | exact HB.out | apply aW | apply aN | apply aU | refine bi ?_ GE291.out) | exact HB.out)); first | done | fail) : P := h
theorem xY {P : Prop} (h : P := by (with_reducible repeat (first | refine dz ?_ _ | refine bU ?_ | refine dx ?_ _)); exact BK291.out) : P := h
theorem Af {P : Prop} (h : P := by (with_reducible repeat (first | apply Kd.mQ | apply Kd.mU | apply Kd.oW)); exact HO_292002.out) : P := h
theorem Ag {P : Prop} (h : P := by (with_reducible repeat (first | apply Kd.mQ | apply Kd.mU | apply Kd.oW)); exact HO_292003.out) : P := h
theorem oQ {P : Prop} (h : P := by (repeat (first | (with_reducible first | exact HB.out | apply aW | apply aN | apply aU | refine bi ?_ GE310.out) | exact HB.out)); first | done | fail) : P := h
theorem qh {P : Prop} (h : P := by (try simp only [List.map_toArray, List.map_cons, List.map_nil]); first | done | rfl) : P := h
theorem mO {P : Prop} (h : P := by (repeat (first | (with_reducible first | exact HB.out | apply aW | apply aN | apply aU | refine bi ?_ GE351.out) | exact HB.out)); first | done | fail) : P := h
theorem xZ {P : Prop} (h : P := by (with_reducible repeat (first | refine dz ?_ _ | refine bU ?_ | refine dx ?_ _)); exact BK351.out) : P := h
theorem xR {P : Prop} (h : P := by rw [hg]; exact (af (by repeat (first | (with_reducible first | exact HB.out | apply aW | apply aN | apply aU | refine bi ?_ GE351.out) | exact HB.out)))) : P := h
theorem lW {P : Prop} (h : P := by have := World.block_lt_of_cell? _ _ hx361_0; first | rwa [add_block] at this | exact this) : P := h
theorem BI {P : Prop} (h : P := by first | (rw [add_block]; exact hn361_0) | (show (Addr.add _ _).block ≠ _; rw [add_block]; exact hn361_0) | exact hn361_0) : P := h
theorem BJ {P : Prop} (h : P := by first | (rw [add_block]; exact hn361_1) | (show (Addr.add _ _).block ≠ _; rw [add_block]; exact hn361_1) | exact hn361_1) : P := h
theorem BL {P : Prop} (h : P := by first | (rw [add_block]; exact hn361_2) | (show (Addr.add _ _).block ≠ _; rw [add_block]; exact hn361_2) | exact hn361_2) : P := h
theorem BM {P : Prop} (h : P := by first | (rw [add_block]; exact hn361_3) | (show (Addr.add _ _).block ≠ _; rw [add_block]; exact hn361_3) | exact hn361_3) : P := h
theorem lX {P : Prop} (h : P := by have := World.block_lt_of_cell? _ _ hx363_0; first | rwa [add_block] at this | exact this) : P := h
theorem BN {P : Prop} (h : P := by first | (rw [add_block]; exact hn363_0) | (show (Addr.add _ _).block ≠ _; rw [add_block]; exact hn363_0) | exact hn363_0) : P := h
theorem BO {P : Prop} (h : P := by first | (rw [add_block]; exact hn363_1) | (show (Addr.add _ _).block ≠ _; rw [add_block]; exact hn363_1) | exact hn363_1) : P := h
theorem BP {P : Prop} (h : P := by first | (rw [add_block]; exact hn363_2) | (show (Addr.add _ _).block ≠ _; rw [add_block]; exact hn363_2) | exact hn363_2) : P := h
theorem BQ {P : Prop} (h : P := by first | (rw [add_block]; exact hn363_3) | (show (Addr.add _ _).block ≠ _; rw [add_block]; exact hn363_3) | exact hn363_3) : P := h
theorem lH {P : Prop} (h : P := by (repeat (first | (with_reducible first | exact HB.out | apply aW | apply aN | apply aU | refine bi ?_ GE351.out | refine bi ?_ GE359.out) | exact HB.out)); first | done | fail) : P := h
theorem Ae {P : Prop} (h : P := by (with_reducible repeat (first | refine dz ?_ _ | refine bU ?_ | refine dx ?_ _)); exact BK359.out) : P := h
theorem vQ {P : Prop} (h : P := by (repeat (first | (with_reducible first | exact HB.out | apply aW | apply aN | apply aU | refine bi ?_ GE375.out) | exact HB.out)); first | done | fail) : P := h
theorem zm {P : Prop} (h : P := by (repeat (first | (with_reducible first | exact HB.out | apply aW | apply aN | apply aU | refine bi ?_ GE382.out) | exact HB.out)); first | done | fail) : P := h
theorem xV {P : Prop} (h : P := by (repeat (first | (with_reducible first | exact HB.out | apply aW | apply aN | apply aU | refine bi ?_ GE385.out) | exact HB.out)); first | done | fail) : P := h
theorem xX {P : Prop} (h : P := by first | exact Kd.qM _ _ _ _ _ | exact Kd.Cn _ _ _ _ _ | exact Kd.Cs _ _ _ _ _ | exact Kd.Co _ _ _ _ _ | exact Kd.Cr _ _ _ _ _) : P := h
theorem BS {P : Prop} (h : P := by (with_reducible repeat (first | refine dz ?_ _ | refine bU ?_ | refine dx ?_ _)); exact BK390.out) : P := h
theorem Ab {P : Prop} (h : P := by (repeat (first | (with_reducible first | exact HB.out | apply aW | apply aN | apply aU | refine bi ?_ GE390.out) | exact HB.out)); first | done | fail) : P := h
theorem Aa {P : Prop} (h : P := by (repeat (first | (with_reducible first | exact HBW.out | apply aW | apply aN | apply aU | refine bi ?_ GW390.out) | exact HBW.out)); first | done | fail) : P := h
theorem qx {P : Prop} (h : P := by (repeat (first | (with_reducible first | exact HB.out | apply aW | apply aN | apply aU | refine bi ?_ GE394.out) | exact HB.out)); first | done | fail) : P := h
theorem z2_ {P : Prop} (h : P := by first | exact (dS (g := gb404) (o := .cells #[.int .i64 0, .int .i64 0, .slice none 0 0, .slice none 0 0, .slice none 0 0] 28 (0, 0)) (by (with_reducible repeat (first | refine dz ?_ _ | refine bU ?_ | refine dx ?_ _)); exact (Q_BK404 h0_ h1_)) hb)) : P := h
theorem uI {P : Prop} (h : P := by (repeat (first | (with_reducible first | exact HB.out | apply aW | apply aN | apply aU | refine bi ?_ GE394.out | refine bi ?_ GE404.out) | exact HB.out)); first | done | fail) : P := h
theorem zo {P : Prop} (h : P := by (with_reducible repeat (first | refine dz ?_ _ | refine bU ?_ | refine dx ?_ _)); exact BK394.out) : P := h
theorem zq {P : Prop} (h : P := by (with_reducible repeat (first | refine dz ?_ _ | refine bU ?_ | refine dx ?_ _)); exact BK404.out) : P := h
theorem z9_ {P : Prop} (h : P := by (repeat (first | (with_reducible first | exact HB.out | apply aW | apply aN | apply aU | refine bi ?_ GE394.out | refine bi ?_ GE404.out | refine bi ?_ GE409.out) | exact HB.out)); first | done | fail) : P := h
theorem Ce {P : Prop} (h : P := by (with_reducible repeat (first | apply Kd.aC | apply Kd.aD | apply Kd.az)); exact HO_405002.out) : P := h
theorem zk {P : Prop} (h : P := by (with_reducible repeat (first | apply Kd.aC | apply Kd.aD | apply Kd.az)); exact HO_405003.out) : P := h
theorem xh {P : Prop} (h : P := by (with_reducible repeat (first | apply Kd.aC | apply Kd.aD | apply Kd.az)); exact HO_405004.out) : P := h
theorem vR {P : Prop} (h : P := by (repeat (first | (with_reducible first | exact HB.out | apply aW | apply aN | apply aU | refine bi ?_ GE414.out) | exact HB.out)); first | done | fail) : P := h
theorem eD {P : Prop} (h : P := by (repeat (first | (with_reducible first | exact HI0.out | apply aj.alloc | apply aj.drewN | apply aj.drew | apply aj.nL | apply aj.nM) | exact HI0.out)); first | done | fail) : P := h
theorem fM {P : Prop} (h : P := by (repeat (first | (with_reducible first | exact HB.out | apply aW | apply aN | apply aU | refine bi ?_ (aj.ge HI0.out)) | exact HB.out)); first | done | fail) : P := h
theorem eZ {P : Prop} (h : P := by (repeat (first | (with_reducible first | exact HK.out | apply ax.uH | apply jv | apply iV | apply jr) | exact HK.out)); first | done | fail) : P := h
theorem BR {P : Prop} (h : P := by first | (rw [add_block]; exact hn427_0) | (show (Addr.add _ _).block ≠ _; rw [add_block]; exact hn427_0) | exact hn427_0) : P := h
theorem zZ {P : Prop} (h : P := by rw [hg]; exact (dZ (w := w) (g := g) (row := none) (by repeat (first | (with_reducible first | exact HK.out | apply ax.uH | apply jv | apply iV | apply jr) | exact HK.out)))) : P := h
theorem sD {P : Prop} (h : P := by (repeat (first | (with_reducible first | exact HI0.out | apply aj.alloc | apply aj.drewN | apply aj.drew | apply aj.nL | apply aj.nM | refine aj.far ?_ NB0_486.out _) | exact HI0.out)); first | done | fail) : P := h
theorem xP {P : Prop} (h : P := by (repeat (first | (with_reducible first | exact HB.out | apply aW | apply aN | apply aU | refine bi ?_ (aj.ge HI0.out) | refine bi ?_ GE486.out) | exact HB.out)); first | done | fail) : P := h
theorem qw {P : Prop} (h : P := by (repeat (first | (with_reducible first | exact HK.out | apply ax.uH | apply jv | apply iV | apply jr | refine iW ?_ GW486.out _) | exact HK.out)); first | done | fail) : P := h
theorem zW {P : Prop} (h : P := by rw [hg]; exact (dZ (w := w) (g := g) (row := none) (by repeat (first | (with_reducible first | exact HK.out | apply ax.uH | apply jv | apply iV | apply jr | refine iW ?_ GW486.out _) | exact HK.out)))) : P := h
theorem z5_ {P : Prop} (h : P := by (repeat (first | (with_reducible first | exact HI0.out | apply aj.alloc | apply aj.drewN | apply aj.drew | apply aj.nL | apply aj.nM | refine aj.far ?_ NB0_486.out _ | refine aj.far ?_ NB0_504.out _) | exact HI0.out)); first | done | fail) : P := h
theorem z8_ {P : Prop} (h : P := by (repeat (first | (with_reducible first | exact HB.out | apply aW | apply aN | apply aU | refine bi ?_ (aj.ge HI0.out) | refine bi ?_ GE486.out | refine bi ?_ GE504.out) | exact HB.out)); first | done | fail) : P := h
theorem jK {P : Prop} (h : P := by (repeat (first | (with_reducible first | exact HK.out | apply ax.uH | apply jv | apply iV | apply jr | refine iW ?_ GW486.out _ | refine iW ?_ GW504.out _) | exact HK.out)); first | done | fail) : P := h
theorem BU {P : Prop} (h : P := by (with_reducible repeat (first | refine dz ?_ _ | refine bU ?_ | refine dx ?_ _)); exact BK486.out) : P := h
theorem BV {P : Prop} (h : P := by (with_reducible repeat (first | refine dz ?_ _ | refine bU ?_ | refine dx ?_ _)); exact BK504.out) : P := h
theorem zY {P : Prop} (h : P := by (repeat (first | (with_reducible first | exact HI602.out | apply aj.alloc | apply aj.drewN | apply aj.drew | apply aj.nL | apply aj.nM | refine aj.far ?_ NB602_598.out _) | exact HI602.out)); first | done | fail) : P := h
theorem wM {P : Prop} (h : P := by (repeat (first | (with_reducible first | exact HB.out | apply aW | apply aN | apply aU | refine bi ?_ (aj.ge HI602.out) | refine bi ?_ GE598.out) | exact HB.out)); first | done | fail) : P := h
theorem z3_ {P : Prop} (h : P := by (repeat (first | (with_reducible first | exact HI602.out | apply aj.alloc | apply aj.drewN | apply aj.drew | apply aj.nL | apply aj.nM | refine aj.far ?_ NB602_598.out _ | refine aj.far ?_ NB602_617.out _) | exact HI602.out)); first | done | fail) : P := h
theorem z6_ {P : Prop} (h : P := by (repeat (first | (with_reducible first | exact HB.out | apply aW | apply aN | apply aU | refine bi ?_ (aj.ge HI602.out) | refine bi ?_ GE598.out | refine bi ?_ GE617.out) | exact HB.out)); first | done | fail) : P := h
theorem BX {P : Prop} (h : P := by (with_reducible repeat (first | refine dz ?_ _ | refine bU ?_ | refine dx ?_ _)); exact BK598.out) : P := h
theorem BZ {P : Prop} (h : P := by (with_reducible repeat (first | refine dz ?_ _ | refine bU ?_ | refine dx ?_ _)); exact BK617.out) : P := h
theorem z1_ {P : Prop} (h : P := by first | exact Kd.jO (Kd.gp HO624.out BK598.out (by decide)) | (rw [add_block]; exact Kd.jO (Kd.gp HO624.out BK598.out (by decide))) | (show (Addr.add _ _).block ≠ _; rw [add_block]; exact Kd.jO (Kd.gp HO624.out BK598.out (by decide))) | (dsimp only; exact Kd.jO (Kd.gp HO624.out BK598.out (by decide)))) : P := h
theorem xW {P : Prop} (h : P := by (repeat (first | (with_reducible first | exact HB.out | apply aW | apply aN | apply aU | refine bi ?_ GE629.out) | exact HB.out)); first | done | fail) : P := h
theorem vP {P : Prop} (h : P := by (repeat (first | (with_reducible first | exact HI638.out | apply aj.alloc | apply aj.drewN | apply aj.drew | apply aj.nL | apply aj.nM | refine aj.far ?_ NB638_634.out _) | exact HI638.out)); first | done | fail) : P := h
theorem sw {P : Prop} (h : P := by (repeat (first | (with_reducible first | exact HB.out | apply aW | apply aN | apply aU | refine bi ?_ (aj.ge HI638.out) | refine bi ?_ GE634.out) | exact HB.out)); first | done | fail) : P := h
theorem zX {P : Prop} (h : P := by rw [hg]; exact (af (by repeat (first | (with_reducible first | exact HB.out | apply aW | apply aN | apply aU | refine bi ?_ (aj.ge HI638.out) | refine bi ?_ GE634.out) | exact HB.out)))) : P := h
theorem z7_ {P : Prop} (h : P := by (repeat (first | (with_reducible first | exact HB.out | apply aW | apply aN | apply aU | refine bi ?_ (aj.ge HI638.out) | refine bi ?_ GE634.out | refine bi ?_ GE653.out) | exact HB.out)); first | done | fail) : P := h
theorem z4_ {P : Prop} (h : P := by (repeat (first | (with_reducible first | exact HI638.out | apply aj.alloc | apply aj.drewN | apply aj.drew | apply aj.nL | apply aj.nM | refine aj.far ?_ NB638_634.out _ | refine aj.far ?_ NB638_653.out _) | exact HI638.out)); first | done | fail) : P := h
theorem lY {P : Prop} (h : P := by rw [Lib.iterAt_size]; exact Nat.le_refl _) : P := h
theorem lZ {P : Prop} (h : P := by have := HP.out; omega) : P := h
theorem oo {P : Prop} (h : P := by (repeat (first | (with_reducible first | exact HB.out | apply aW | apply aN | apply aU | refine bi ?_ GE673.out) | exact HB.out)); first | done | fail) : P := h
theorem Ca {P : Prop} (h : P := by (with_reducible repeat (first | refine dz ?_ _ | refine bU ?_ | refine dx ?_ _)); exact BK673.out) : P := h
theorem Bw {P : Prop} (h : P := by (repeat (first | exact HR0.out | (with_reducible refine Kd.dH ?_ _) | (with_reducible refine Kd.dJ ?_ _) | (with_reducible refine Kd.dX ?_))); first | done | fail) : P := h
theorem pO {P : Prop} (h : P := by (repeat (first | (with_reducible first | exact HB.out | apply aW | apply aN | apply aU | refine bi ?_ GE705.out) | exact HB.out)); first | done | fail) : P := h
theorem Br {P : Prop} (h : P := by (repeat (first | exact (Kd.aH HO697.out).2.2 | (with_reducible refine Kd.dH ?_ _) | (with_reducible refine Kd.dJ ?_ _) | (with_reducible refine Kd.dX ?_))); first | done | fail) : P := h
theorem Bt {P : Prop} (h : P := by (repeat (first | exact (Kd.aH HO700.out).2.2 | (with_reducible refine Kd.dH ?_ _) | (with_reducible refine Kd.dJ ?_ _) | (with_reducible refine Kd.dX ?_))); first | done | fail) : P := h
theorem Bu {P : Prop} (h : P := by (repeat (first | exact (Kd.aH HO703.out).2.2 | (with_reducible refine Kd.dH ?_ _) | (with_reducible refine Kd.dJ ?_ _) | (with_reducible refine Kd.dX ?_))); first | done | fail) : P := h
theorem nH {P : Prop} (h : P := by (repeat (first | (with_reducible first | exact HB.out | apply aW | apply aN | apply aU | refine bi ?_ GE705.out | refine bi ?_ GE729.out) | exact HB.out)); first | done | fail) : P := h
theorem Cb {P : Prop} (h : P := by (with_reducible repeat (first | refine dz ?_ _ | refine bU ?_ | refine dx ?_ _)); exact BK705.out) : P := h
theorem Cc {P : Prop} (h : P := by (with_reducible repeat (first | refine dz ?_ _ | refine bU ?_ | refine dx ?_ _)); exact BK729.out) : P := h
theorem pv_ {P : Program} {ops : Array Oper} {Q : Exit → Act → World → Prop} {md : Region.Mode} {S : World → Prop} {ds : List Nat} (i : Nat) (N : Option Tmp) {oi : Oper} {v : Value} {fuel : Nat} {l l' : Array Bool} {a a' : Act} {w : World} (h : dB P md ops Q S ds fuel l' a' w) (hl : l.setIfInBounds i true = l' := by (simp only [List.setIfInBounds_toArray, List.set_cons_zero, List.set_cons_succ]; rfl)) (hi : ops[i]? = some oi := by exact rfl) (hN : oi.dst = N := by exact rfl) (hc : yw md ops l l' i = true := by exact lL HT_.out (by kernel_rfl)) (hQ : ∀ c a w, Q (.panic c) (a.put oi.dst v) w → Q (.panic c) a w := by exact (fun _ _ _ h => h)) (hy : Yields P ops oi v a := by exact (Or.inl ⟨by rfl, by (intro w'; go_simp; with_reducible rfl)⟩)) (ha : a.put N v = a' := by (simp only [Act.put, List.setIfInBounds_toArray, List.set_cons_zero, List.set_cons_succ, eU, gX]; rfl)) : dB P md ops Q S ds (fuel + 1) l a w := oJ l' hi hN hc hQ hy ha h
theorem on_ {P : Program} {ops : Array Oper} {Q : Exit → Act → World → Prop} {md : Region.Mode} {S : World → Prop} {ds : List Nat} {i : Nat} {N : Option Tmp} {oi : Oper} {fuel : Nat} {l l' : Array Bool} {a : Act} {w : World} (h : ∀ K : Act → World → Prop, Shut (∀ a' w', S w' → (S w' → dB P md ops Q S ds fuel l' a' w') → K a' w') → if Region.wanted oi (yielded ops a.tmps) = true then Oper.wp P oi a w K Q else K (a.put N undef) w) (hl : l.setIfInBounds i true = l' := by (simp only [List.setIfInBounds_toArray, List.set_cons_zero, List.set_cons_succ]; rfl)) (hi : ops[i]? = some oi := by exact rfl) (hN : oi.dst = N := by exact rfl) (hc : mH md ops l l' i = true := by exact yQ HT_.out (by kernel_rfl)) (hd : i ∉ ds := by decide) : dB P md ops Q S ds (fuel + 1) l a w := Dq l' hi hN hc hd h
theorem la_ {P : Program} {ops : Array Oper} {Q : Exit → Act → World → Prop} {md : Region.Mode} {S : World → Prop} {ds : List Nat} {i : Nat} {N : Option Tmp} {oi : Oper} {fuel : Nat} {l l' : Array Bool} {a : Act} {w : World} (h : ∀ K : Act → World → Prop, Shut (∀ a' w', dB P md ops Q S ds fuel l' a' w' → K a' w') → if Region.wanted oi (yielded ops a.tmps) = true then Oper.wp P oi a w K Q else K (a.put N undef) w) (hl : l.setIfInBounds i true = l' := by (simp only [List.setIfInBounds_toArray, List.set_cons_zero, List.set_cons_succ]; rfl)) (hi : ops[i]? = some oi := by exact rfl) (hN : oi.dst = N := by exact rfl) (hc : mH md ops l l' i = true := by exact yQ HT_.out (by kernel_rfl)) (hd : i ∈ ds := by decide) : dB P md ops Q S ds (fuel + 1) l a w := CE l' hi hN hc hd h
theorem rl_ {α : Type} {d : Kd α} {e : TypeId} {base : Nat} {ok : Nat → Prop} {v : Value} {xs : List α} {w w' : World} {P : Prop} (h : ah P) (hb : Below w.heap.size w w') (k : P → d.R e w base ok v xs := by (intro h_; (with_reducible repeat (first | apply Kd.aC | apply Kd.aD | apply Kd.az)); exact h_)) : ah (d.R e w' base ok v xs) := a_ (Kd.dN (k h.out) hb)
theorem bb_ {w w' : World} {o : Obj} {P : Prop} (g : Nat) (h : ah P) (hb : Below w.heap.size w w') (k : P → w.heap[g]? = some o := by (intro h_; (with_reducible repeat (first | refine dz ?_ _ | refine bU ?_ | refine dx ?_ _)); exact h_)) : ah (w'.heap[g]? = some o) := a_ (dS (k h.out) hb)
theorem df {w w1 w2 : World} (h : Below w.heap.size w w1) (hb : Below w1.heap.size w1 w2) : ah (Below w.heap.size w w2) := a_ (jo h hb)
theorem nG {P : Program} {ops : Array Oper} {Q : Exit → Act → World → Prop} {md : Region.Mode} {S : World → Prop} {ds : List Nat} {i : Nat} {N : Option Tmp} {oi : Oper} {v : Value} {fuel : Nat} {l l' : Array Bool} {a a' : Act} {w : World} (hS : S w) (h : dB P md ops Q S ds fuel l' a' w) (hl : l.setIfInBounds i true = l' := by (simp only [List.setIfInBounds_toArray, List.set_cons_zero, List.set_cons_succ]; rfl)) (hi : ops[i]? = some oi := by exact rfl) (hN : oi.dst = N := by exact rfl) (hc : takeB md ops ds l l' i = true := by exact mJ HT_.out HW_.out (by kernel_rfl)) (hQ : ∀ c a w, Q (.panic c) (a.put oi.dst v) w → Q (.panic c) a w := by exact (fun _ _ _ h => h)) (hy : YieldsIf P ops S oi v a := by exact (Or.inl ⟨by rfl, by (rintro w' ⟨s0, s1⟩; go_simp; with_reducible rfl)⟩)) (ha : a.put N v = a' := by (simp only [Act.put, List.setIfInBounds_toArray, List.set_cons_zero, List.set_cons_succ, eU, gX]; rfl)) : dB P md ops Q S ds (fuel + 1) l a w := qg l' hi hN hc hQ hy hS ha h
theorem mf {P : Program} {ops : Array Oper} {Q : Exit → Act → World → Prop} {md : Region.Mode} {S : World → Prop} {ds : List Nat} (i : Nat) (N : Option Tmp) {oi : Oper} {v : Value} {fuel : Nat} {l l' : Array Bool} {a a' : Act} {w : World} (hS : S w) (h : dB P md ops Q S ds fuel l' a' w) (hl : l.setIfInBounds i true = l' := by (simp only [List.setIfInBounds_toArray, List.set_cons_zero, List.set_cons_succ]; rfl)) (hi : ops[i]? = some oi := by exact rfl) (hN : oi.dst = N := by exact rfl) (hc : takeB md ops ds l l' i = true := by exact mJ HT_.out HW_.out (by kernel_rfl)) (hQ : ∀ c a w, Q (.panic c) (a.put oi.dst v) w → Q (.panic c) a w := by exact (fun _ _ _ h => h)) (hy : YieldsIf P ops S oi v a := by exact (Or.inl ⟨by rfl, by (rintro w' ⟨s0, s1, s2, s3⟩; go_simp; with_reducible rfl)⟩)) (ha : a.put N v = a' := by (simp only [Act.put, List.setIfInBounds_toArray, List.set_cons_zero, List.set_cons_succ, eU, gX]; rfl)) : dB P md ops Q S ds (fuel + 1) l a w := qg l' hi hN hc hQ hy hS ha h
theorem xM {P : Program} {ops : Array Oper} {Q : Exit → Act → World → Prop} {md : Region.Mode} {S : World → Prop} {ds : List Nat} {i : Nat} {N : Option Tmp} {oi : Oper} {v : Value} {fuel : Nat} {l l' : Array Bool} {a a' : Act} {w : World} (hS : S w) (h : dB P md ops Q S ds fuel l' a' w) (hl : l.setIfInBounds i true = l' := by (simp only [List.setIfInBounds_toArray, List.set_cons_zero, List.set_cons_succ]; rfl)) (hi : ops[i]? = some oi := by exact rfl) (hN : oi.dst = N := by exact rfl) (hc : takeB md ops ds l l' i = true := by exact mJ HT_.out HW_.out (by kernel_rfl)) (hQ : ∀ c a w, Q (.panic c) (a.put oi.dst v) w → Q (.panic c) a w := by exact (fun _ _ _ h => h)) (hy : YieldsIf P ops S oi v a := by exact (Or.inl ⟨by rfl, by (rintro w' ⟨s0, s1, s2, s3, s4⟩; go_simp; with_reducible rfl)⟩)) (ha : a.put N v = a' := by (simp only [Act.put, List.setIfInBounds_toArray, List.set_cons_zero, List.set_cons_succ, eU, gX]; rfl)) : dB P md ops Q S ds (fuel + 1) l a w := qg l' hi hN hc hQ hy hS ha h
theorem mK {P : Program} {ops : Array Oper} {Q : Exit → Act → World → Prop} {md : Region.Mode} {S : World → Prop} {ds : List Nat} {i : Nat} {N : Option Tmp} {oi : Oper} {v : Value} {fuel : Nat} {l l' : Array Bool} {a a' : Act} {w : World} (hS : S w) (h : dB P md ops Q S ds fuel l' a' w) (hl : l.setIfInBounds i true = l' := by (simp only [List.setIfInBounds_toArray, List.set_cons_zero, List.set_cons_succ]; rfl)) (hi : ops[i]? = some oi := by exact rfl) (hN : oi.dst = N := by exact rfl) (hc : takeB md ops ds l l' i = true := by exact mJ HT_.out HW_.out (by kernel_rfl)) (hQ : ∀ c a w, Q (.panic c) (a.put oi.dst v) w → Q (.panic c) a w := by exact (fun _ _ _ h => h)) (hy : YieldsIf P ops S oi v a := by exact (Or.inl ⟨by rfl, by (rintro w' ⟨s0, s1, s2, s3, s4, s5⟩; go_simp; with_reducible rfl)⟩)) (ha : a.put N v = a' := by (simp only [Act.put, List.setIfInBounds_toArray, List.set_cons_zero, List.set_cons_succ, eU, gX]; rfl)) : dB P md ops Q S ds (fuel + 1) l a w := qg l' hi hN hc hQ hy hS ha h
theorem bo_ {α β : Type} {x : Option α} {f : α → Option β} {r : β} (h : x.bind f = some r) : ∃ a, ah (x = some a) ∧ f a = some r := (Option.bind_eq_some_iff.mp h).imp (fun _ z => ⟨a_ z.1, z.2⟩)
theorem ig_ {α : Type} {c : Prop} [Decidable c] {x : Option α} {r : α} (h : (if c then x else none) = some r) : c ∧ x = some r := by
  by_cases z : c
  · rw [if_pos z] at h; exact ⟨z, h⟩
  · rw [if_neg z] at h; cases h
theorem in_ {α : Type} {c : Prop} [Decidable c] {x : Option α} {r : α} (h : (if c then none else x) = some r) : ¬ c ∧ x = some r := by
  by_cases z : c
  · rw [if_pos z] at h; cases h
  · rw [if_neg z] at h; exact ⟨z, h⟩
set_option maxHeartbeats 8000000
set_option maxRecDepth 100000
def iF.f (a0 : Int) (a1 : Int) (a2 : Int) : Option (Bool) := if a0 ≥ a1 then (some (decide (a0 ≤ a2))) else (some false)
theorem iF.calls (a0 : Int) (a1 : Int) (a2 : Int) (r : Bool) (w : World) (h : iF.f a0 a1 a2 = some r) :
  Calls Tryz.prog 57 #[.int .i64 a0, .int .i64 a1, .int .i64 a2] w fun e w' => e = .returned (.bool r) ∧ eY w w' := by
 have H : (if a0 ≥ a1 then (some (decide (a0 ≤ a2))) else (some false)) = some r := h
 clear h
 by_cases c4 : a0 ≥ a1
 ·rw [if_pos c4] at H
  have A1 := decide_eq_true c4
  clear c4
  obtain rfl := Option.some.inj H
  go_enter Tryz.func57, Tryz.ntmps57
  go_wp2
  go_ret
  exact ⟨fT, eQ⟩
 rw [if_neg c4] at H
 have A1 := decide_eq_false c4
 clear c4
 obtain rfl := Option.some.inj H
 go_enter Tryz.func57, Tryz.ntmps57
 go_wp2
 go_ret
 exact ⟨fT, eQ⟩
def jy.f (l0 : List Int) : Option (List Int) := (some (([] : List Int) : List Int)).bind fun y101 => (if y101.length + l0.length < 17592186044416 then (some (y101 ++ l0)) else (none))
theorem jy.calls (A0 : Option Addr) (c0 : Nat) (l0 : List Int) (r : List Int) (w : World) (hr0 : Kd.C (Kd.int .i64) w A0 l0.length l0) (hc0 : l0.length ≤ c0) (h : jy.f l0 = some r) :
  Calls Tryz.prog 59 #[.slice A0 l0.length c0] w fun e w' => ∃ v0_ : Value, e = .returned (v0_) ∧ Kd.R (Kd.int .i64) 2 w' w.heap.size (fun _ => True) v0_ r ∧ Below w.heap.size w w' := by
 have HR0 := a_ hr0
 have B3 := a_ hc0
 clear hr0 hc0
 have HB := a_ (Below.refl w.heap.size w)
 have H : ((some (([] : List Int) : List Int)).bind fun A1 => (if A1.length + l0.length < 17592186044416 then (some (A1 ++ l0)) else (none))) = some r := h
 clear h
 obtain ⟨A1, A2⟩ : ∃ y_ : List Int, y_ = (([] : List Int)) := ⟨_, rfl⟩
 replace H : (if A1.length + l0.length < 17592186044416 then (some (A1 ++ l0)) else (none)) = some r := rh_ A2 H
 have A4 := a_ A2
 clear A2
 replace H := ig_ H; obtain ⟨c2, H⟩ := H
 have LMc2 := a_ c2
 clear c2
 obtain ⟨A8, A3⟩ : ∃ y_ : List Int, y_ = (A1 ++ l0) := ⟨_, rfl⟩
 replace H : (some A8) = some r := rh_ A3 H
 have A6 := a_ A3
 clear A3
 obtain rfl := Option.some.inj H
 go_enter Tryz.func59, Tryz.ntmps59
 go_wp2_with (first | ((with_reducible refine bf (N := 3) rfl ?_); refine Kd.fU (Kd.int .i64) _ 2 ?hg (N := 3) ?hd (xs := ([] : List Int)) (inner := []) (ok := fun _ => True) (okp := fun _ => True) ?hr ?hp (fun _ hk => hk) trivial (Below.refl _ _) (Nat.le_refl _) (by simp) ?_; (case hd => rfl); (case hg => rfl); (case hr => first | (go_simp; done) | (go_simp; rfl)); (case hp => exact (dm.none _ _)); intro A9 w3 ho4 hb hg_ hnew_; clear hg_ hnew_; (first | rw [← A4.out] at ho4 | (simp only [Int.reduceToNat] at ho4; rw [← A4.out] at ho4)); have A5 := a_ (Kd.bu ho4 (af bO)); replace HB := df bO hb; clear hb ho4) | ((with_reducible refine bF (b := .append) (xs := #[.tmp 3, .tmp 4]) rfl ?_); at_builtin; refine Kd.dO (Kd.int .i64) (w0 := w) w.heap.size rfl (.tmp 3) (.tmp 4) 22 2 (.int .i64 0) 8 rfl Tryz.underlying22 jc rfl (by decide) (by omega) A9 A1 l0 _ _ _ (fun _ => True) (fun _ => False) rfl rfl ?aO ?aR (fun _ _ h => h) (fun _ h => h.elim) ?aF ?aB ?aS ?aL ?_; (case aR => exact kc_ (Kd.bE HR0.out HB.out)); (case aB => exact bO); (case aF => exact (fun _ _ => trivial)); (case aO => exact (ra_ A5.out)); (case aS => exact (af bO)); (case aL => have := LMc2.out; omega); intro B0 w5 ho hb hg hat; rw [← A6.out] at ho; replace HB := a_ (hb); have A7 := a_ (ho); clear A5; clear ho hb hg hat))
 go_ret
 exact ⟨_, fO, by (with_reducible repeat (first | apply Kd.aC | apply Kd.aD | apply Kd.az)); exact A7.out, bO⟩
def bq.f (a0 : Int) : Option (Int × Bool) := if a0 = 1 then (some (0, true)) else (if a0 = 2 then (some (1, true)) else (if a0 = 4 then (some (2, true)) else (if a0 = 8 then (some (3, true)) else (some (0, false)))))
theorem bq.calls (a0 : Int) (r1 : Int) (r2 : Bool) (w : World) (h : bq.f a0 = some (r1, r2)) :
  Calls Tryz.prog 80 #[.int .i64 a0] w fun e w' => e = .returned (.tuple #[.int .i64 r1, .bool r2]) ∧ eY w w' := by
 have H : (if a0 = 1 then (some (0, true)) else (if a0 = 2 then (some (1, true)) else (if a0 = 4 then (some (2, true)) else (if a0 = 8 then (some (3, true)) else (some (0, false)))))) = some (r1, r2) := h
 clear h
 by_cases c2 : a0 = 1
 ·rw [if_pos c2] at H
  have A1 : (a0 == 1) = true := beq_iff_eq.mpr c2
  have A2 : (a0 != 1) = false := bne_eq_false_iff_eq.mpr c2
  clear c2
  simp only [Option.some.injEq, Prod.mk.injEq] at H
  obtain ⟨rfl, rfl⟩ := H
  go_enter Tryz.func80, Tryz.ntmps80
  go_wp2
  go_ret2
  exact ⟨fT, eQ⟩
 rw [if_neg c2] at H
 have A1 : (a0 == 1) = false := beq_eq_false_iff_ne.mpr c2
 have A2 : (a0 != 1) = true := bne_iff_ne.mpr c2
 by_cases c3 : a0 = 2
 ·rw [if_pos c3] at H
  have A3 : (a0 == 2) = true := beq_iff_eq.mpr c3
  have A4 : (a0 != 2) = false := bne_eq_false_iff_eq.mpr c3
  clear c3
  simp only [Option.some.injEq, Prod.mk.injEq] at H
  obtain ⟨rfl, rfl⟩ := H
  go_enter Tryz.func80, Tryz.ntmps80
  go_wp2
  go_ret2
  exact ⟨fT, eQ⟩
 rw [if_neg c3] at H
 have A3 : (a0 == 2) = false := beq_eq_false_iff_ne.mpr c3
 have A4 : (a0 != 2) = true := bne_iff_ne.mpr c3
 by_cases c4 : a0 = 4
 ·rw [if_pos c4] at H
  have A5 : (a0 == 4) = true := beq_iff_eq.mpr c4
  have A6 : (a0 != 4) = false := bne_eq_false_iff_eq.mpr c4
  clear c4
  simp only [Option.some.injEq, Prod.mk.injEq] at H
  obtain ⟨rfl, rfl⟩ := H
  go_enter Tryz.func80, Tryz.ntmps80
  go_wp2
  go_ret2
  exact ⟨fT, eQ⟩
 rw [if_neg c4] at H
 have A5 : (a0 == 4) = false := beq_eq_false_iff_ne.mpr c4
 have A6 : (a0 != 4) = true := bne_iff_ne.mpr c4
 by_cases c5 : a0 = 8
 ·rw [if_pos c5] at H
  have A7 : (a0 == 8) = true := beq_iff_eq.mpr c5
  have A8 : (a0 != 8) = false := bne_eq_false_iff_eq.mpr c5
  clear c5
  simp only [Option.some.injEq, Prod.mk.injEq] at H
  obtain ⟨rfl, rfl⟩ := H
  go_enter Tryz.func80, Tryz.ntmps80
  go_wp2
  go_ret2
  exact ⟨fT, eQ⟩
 rw [if_neg c5] at H
 have A7 : (a0 == 8) = false := beq_eq_false_iff_ne.mpr c5
 have A8 : (a0 != 8) = true := bne_iff_ne.mpr c5
 simp only [Option.some.injEq, Prod.mk.injEq] at H
 obtain ⟨rfl, rfl⟩ := H
 go_enter Tryz.func80, Tryz.ntmps80
 go_wp2
 go_ret2
 exact ⟨fT, eQ⟩
def dE.f (a0 : Int) (a1 : Int) : Option (Bool) := (bq.f a0).bind fun bt107 => ((bq.f a1).bind fun bt109 => (if bt107.2 = true then (some bt109.2) else (some false)))
theorem dE.calls (a0 : Int) (a1 : Int) (r : Bool) (w : World) (h : dE.f a0 a1 = some r) :
  Calls Tryz.prog 66 #[.int .i64 a0, .int .i64 a1] w fun e w' => e = .returned (.bool r) ∧ eY w w' := by
 have H : ((bq.f a0).bind fun A2 => ((bq.f a1).bind fun A5 => (if A2.2 = true then (some A5.2) else (some false)))) = some r := h
 clear h
 replace H := bo_ H; obtain ⟨⟨A6, A8⟩, A3, H⟩ := H; (try dsimp only at H)
 replace H := bo_ H; obtain ⟨⟨A7, A1⟩, A4, H⟩ := H; (try dsimp only at H)
 by_cases c5 : A8 = true
 ·subst c5
  have H1 : (some A1) = some r := by rw [if_pos rfl] at H; exact H
  clear H
  have H := H1
  clear H1
  obtain rfl := Option.some.inj H
  go_enter Tryz.func66, Tryz.ntmps66
  go_wp2_with (first | ((with_reducible refine av (f := 80) rfl ?_); refine bI (some 11) rfl rfl Tryz.func80 (by kernel_rfl) rfl #[.int .i64 a0] rfl dL ?_; (with_reducible refine (bq.calls a0 A6 true _ A3.out).mono ?_); rintro e w' ⟨rfl, ⟨nd, rfl⟩⟩; refine ⟨_, rfl, ?_⟩) | ((with_reducible refine av (f := 80) rfl ?_); refine bI (some 16) rfl rfl Tryz.func80 (by kernel_rfl) rfl #[.int .i64 a1] rfl dL ?_; (with_reducible refine (bq.calls a1 A7 A1 _ A4.out).mono ?_); rintro e w' ⟨rfl, ⟨nd, rfl⟩⟩; refine ⟨_, rfl, ?_⟩))
  go_ret
  exact ⟨fT, eQ⟩
 ·replace c5 := Bool.eq_false_iff.mpr c5
  subst c5
  have H1 : (some false) = some r := by rw [if_neg (show ¬ (false = true) by decide)] at H; exact H
  clear H
  have H := H1
  clear H1
  obtain rfl := Option.some.inj H
  go_enter Tryz.func66, Tryz.ntmps66
  go_wp2_with (first | ((with_reducible refine av (f := 80) rfl ?_); refine bI (some 11) rfl rfl Tryz.func80 (by kernel_rfl) rfl #[.int .i64 a0] rfl dL ?_; (with_reducible refine (bq.calls a0 A6 false _ A3.out).mono ?_); rintro e w' ⟨rfl, ⟨nd, rfl⟩⟩; refine ⟨_, rfl, ?_⟩) | ((with_reducible refine av (f := 80) rfl ?_); refine bI (some 16) rfl rfl Tryz.func80 (by kernel_rfl) rfl #[.int .i64 a1] rfl dL ?_; (with_reducible refine (bq.calls a1 A7 A1 _ A4.out).mono ?_); rintro e w' ⟨rfl, ⟨nd, rfl⟩⟩; refine ⟨_, rfl, ?_⟩))
  go_ret
  exact ⟨fT, eQ⟩
def cK.l0 : Nat → List Int → Int → Int → Int → Int → Option (Bool)
 | 0, _, _, _, _, _ => none
 | k + 1, x0, x1, x2, x3, x9 => if x9 < (x0.length : Int) then (if 0 ≤ x9 then ((iF.f (rd x0 x9) x2 x3).bind fun t112 => (if t112 = true then (cK.l0 k x0 x1 x2 x3 (wrap64 (x9 + 1))) else (some false))) else (none)) else (some (decide ((x0.length : Int) ≤ x1)))
def cK.f (k : Nat) (l0 : List Int) (a1 : Int) (a2 : Int) (a3 : Int) : Option (Bool) := cK.l0 k l0 a1 a2 a3 0
theorem cK.di : ∀ k, (∀ y0 y1 y2 y3 y4, LeO (cK.l0 k y0 y1 y2 y3 y4) (cK.l0 (k + 1) y0 y1 y2 y3 y4))
 | 0 => fun _ _ _ _ _ r h => by simp [cK.l0] at h
 | k + 1 => by
  have ih0 := cK.di k
  ·intro y0 y1 y2 y3 y4
   unfold cK.l0
   repeat' first | (with_reducible first | exact ih0 .. | exact LeO.refl .. | exact LeO.none .. | refine LeO.ite ?_ ?_ | refine LeO.bind ?_ (fun _ => ?_))
theorem cK.mono : ∀ a0 a1 a2 a3 k, LeO (cK.f k a0 a1 a2 a3) (cK.f (k + 1) a0 a1 a2 a3) := by
 intro a0 a1 a2 a3 k
 have ih0 := cK.di k
 unfold cK.f
 repeat' first | (with_reducible first | exact ih0 .. | exact LeO.refl .. | exact LeO.none .. | refine LeO.ite ?_ ?_ | refine LeO.bind ?_ (fun _ => ?_))
theorem cK.calls (k : Nat) (A0 : Option Addr) (c0 : Nat) (l0 : List Int) (a1 : Int) (a2 : Int) (a3 : Int) (r : Bool) (w : World) (hr0 : Kd.C (Kd.int .i64) w A0 l0.length l0) (hc0 : l0.length ≤ c0) (h : cK.f k l0 a1 a2 a3 = some r) :
  Calls Tryz.prog 67 #[.slice A0 l0.length c0, .int .i64 a1, .int .i64 a2, .int .i64 a3] w fun e w' => e = .returned (.bool r) ∧ eY w w' := by
 have HR0 := a_ hr0
 have B3 := a_ hc0
 clear hr0 hc0
 have H : (cK.l0 k l0 a1 a2 a3 0) = some r := h
 clear h
 have H' := a_ H
 clear H
 go_enter Tryz.func67, Tryz.ntmps67
 go_wp2
 go_loopg [9] k (fun kq v9 w' => ∃ (A1 : Int), v9 = .int .i64 A1 ∧ ah (cK.l0 kq l0 a1 a2 a3 A1 = some r) ∧ ah (kq ≤ k) ∧ eY w w')
 case atStart => exact ⟨(0), bZ, H', ⟨Nat.le_refl _⟩, eQ⟩
 case round =>
  clear H'
  obtain ⟨A1, rfl, HA, HK1, ⟨m1, rfl⟩⟩ := hrel
  cases gk with
  | zero => exact absurd HA.out (by simp [cK.l0])
  | succ k1 =>
   have H := HA.out
   clear HA
   simp only [cK.l0] at H
   by_cases c5 : A1 < (l0.length : Int)
   ·rw [if_pos c5] at H
    have A8 := decide_eq_true c5
    clear c5
    replace H := ig_ H; obtain ⟨c6, H⟩ := H
    have B0 := decide_eq_true c6
    clear c6
    replace H := bo_ H; obtain ⟨A9, A7, H⟩ := H; (try dsimp only at H)
    by_cases c8 : A9 = true
    ·subst c8
     have H1 : (cK.l0 k1 l0 a1 a2 a3 (wrap64 (A1 + 1))) = some r := by rw [if_pos rfl] at H; exact H
     clear H
     have H := H1
     clear H1
     have H' := a_ H
     clear H
     have A2 : 0 ≤ (A1 : Int) := of_decide_eq_true aG
     have A3 : A1 < (l0.length : Int) := of_decide_eq_true aG
     obtain ⟨A6, A5, A4⟩ := Kd.dM HR0.out A1 A2 A3
     cases A5
     replace A2 := eq_true A2
     replace A3 := eq_true A3
     go_wp2_with (first | ((with_reducible refine av (f := 57) rfl ?_); refine bI (some 22) rfl rfl Tryz.func57 (by kernel_rfl) rfl #[.int .i64 (rd l0 A1), .int .i64 a2, .int .i64 a3] rfl dL ?_; (with_reducible refine (iF.calls (rd l0 A1) a2 a3 true _ A7.out).mono ?_); rintro e w' ⟨rfl, ⟨nd, rfl⟩⟩; refine ⟨_, rfl, ?_⟩))
     go_roundg k1
     case measure => have := HK1.out; omega
     case rel => exact ⟨(wrap64 (A1 + 1)), bZ, H', ⟨jR⟩, eQ⟩
    ·replace c8 := Bool.eq_false_iff.mpr c8
     subst c8
     have H1 : (some false) = some r := by rw [if_neg (show ¬ (false = true) by decide)] at H; exact H
     clear H
     have H := H1
     clear H1
     obtain rfl := Option.some.inj H
     have A2 : 0 ≤ (A1 : Int) := of_decide_eq_true aG
     have A3 : A1 < (l0.length : Int) := of_decide_eq_true aG
     obtain ⟨A6, A5, A4⟩ := Kd.dM HR0.out A1 A2 A3
     cases A5
     replace A2 := eq_true A2
     replace A3 := eq_true A3
     go_wp2_with (first | ((with_reducible refine av (f := 57) rfl ?_); refine bI (some 22) rfl rfl Tryz.func57 (by kernel_rfl) rfl #[.int .i64 (rd l0 A1), .int .i64 a2, .int .i64 a3] rfl dL ?_; (with_reducible refine (iF.calls (rd l0 A1) a2 a3 false _ A7.out).mono ?_); rintro e w' ⟨rfl, ⟨nd, rfl⟩⟩; refine ⟨_, rfl, ?_⟩))
     go_ret
     exact ⟨fT, eQ⟩
   rw [if_neg c5] at H
   have A8 := decide_eq_false c5
   clear c5
   obtain rfl := Option.some.inj H
   go_wp2
   go_ret
   exact ⟨fT, eQ⟩
def bT.l0 : Nat → Int → Int → Int → Int → List Int → List Int → List Int → Option (Int)
 | 0, _, _, _, _, _, _, _ => none
 | k + 1, x3, x4, x114000, x114001, x114002, x114003, x114004 => if x4 < (x114002.length : Int) then (if 0 ≤ x4 then (if x4 < (x114003.length : Int) then (bT.l0 k (mn x3 (mn (rd x114002 x4) (rd x114003 x4))) (wrap64 (x4 + 1)) x114000 x114001 x114002 x114003 x114004) else (none)) else (none)) else (some x3)
def bT.f (k : Nat) (a0_0 : Int) (a0_1 : Int) (l0_2 : List Int) (l0_3 : List Int) (l0_4 : List Int) : Option (Int) := if 0 < (l0_2.length : Int) then (bT.l0 k (rd l0_2 0) 0 a0_0 a0_1 l0_2 l0_3 l0_4) else (none)
theorem bT.di : ∀ k, (∀ y0 y1 y2 y3 y4 y5 y6, LeO (bT.l0 k y0 y1 y2 y3 y4 y5 y6) (bT.l0 (k + 1) y0 y1 y2 y3 y4 y5 y6))
 | 0 => fun _ _ _ _ _ _ _ r h => by simp [bT.l0] at h
 | k + 1 => by
  have ih0 := bT.di k
  ·intro y0 y1 y2 y3 y4 y5 y6
   unfold bT.l0
   repeat' first | (with_reducible first | exact ih0 .. | exact LeO.refl .. | exact LeO.none .. | refine LeO.ite ?_ ?_ | refine LeO.bind ?_ (fun _ => ?_))
theorem bT.mono : ∀ a0 a1 a2 a3 a4 k, LeO (bT.f k a0 a1 a2 a3 a4) (bT.f (k + 1) a0 a1 a2 a3 a4) := by
 intro a0 a1 a2 a3 a4 k
 have ih0 := bT.di k
 unfold bT.f
 repeat' first | (with_reducible first | exact ih0 .. | exact LeO.refl .. | exact LeO.none .. | refine LeO.ite ?_ ?_ | refine LeO.bind ?_ (fun _ => ?_))
theorem bT.calls (k : Nat) (a0_0 : Int) (a0_1 : Int) (D3 : Option Addr) (C8 : Nat) (l0_2 : List Int) (C9 : Option Addr) (D0 : Nat) (l0_3 : List Int) (D1 : Option Addr) (D2 : Nat) (l0_4 : List Int) (r : Int) (w : World) (hr0_2 : Kd.C (Kd.int .i64) w D3 l0_2.length l0_2) (hc0_2 : l0_2.length ≤ C8) (hr0_3 : Kd.C (Kd.int .i64) w C9 l0_3.length l0_3) (hc0_3 : l0_3.length ≤ D0) (hr0_4 : Kd.C (Kd.int .i64) w D1 l0_4.length l0_4) (hc0_4 : l0_4.length ≤ D2) (h : bT.f k a0_0 a0_1 l0_2 l0_3 l0_4 = some r) :
  Calls Tryz.prog 68 #[.agg #[.int .i64 a0_0, .int .i64 a0_1, .slice D3 l0_2.length C8, .slice C9 l0_3.length D0, .slice D1 l0_4.length D2]] w fun e w' => e = .returned (.int .i64 r) ∧ Below w.heap.size w w' := by
 have hu28 := Tryz.underlying28
 have C6 := a_ hr0_2
 have H1 := a_ hc0_2
 clear hr0_2 hc0_2
 have E2 := a_ hr0_3
 have H2 := a_ hc0_3
 clear hr0_3 hc0_3
 have HR0_4 := a_ hr0_4
 have H3 := a_ hc0_4
 clear hr0_4 hc0_4
 have HB := a_ (Below.refl w.heap.size w)
 have H : (if 0 < (l0_2.length : Int) then (bT.l0 k (rd l0_2 0) 0 a0_0 a0_1 l0_2 l0_3 l0_4) else (none)) = some r := h
 clear h
 replace H := ig_ H; obtain ⟨c2, H⟩ := H
 have G5 := decide_eq_true c2
 have G6 : decide (0 < l0_2.length) = true := decide_eq_true (by omega)
 clear c2
 have H' := a_ H
 clear H
 go_enter Tryz.func68, Tryz.ntmps68
 go_wp2_with (first | ((with_reducible refine bf (N := 1) rfl ?_); refine cz ?hg (N := 1) ?hd (cs := #[.int .i64 a0_0, .int .i64 a0_1, .slice D3 l0_2.length C8, .slice C9 l0_3.length D0, .slice D1 l0_4.length D2]) (t := 28) ?hr ?_; (case hd => rfl); (case hg => rfl); (case hr => first | (go_simp; done) | (go_simp; rfl)); intro A4 hg w3 hbox hb; have A3 := a_ (hbox); have D6 := a_ ((fG : w.heap.size ≤ A4)); have GE113 := a_ ((fG : w.heap.size ≤ A4)); replace HB := df bO hb; clear hb hbox hg; obtain ⟨A9, B0, B3, B4, B7, C0, C1, C2, C3, C4⟩ := eH (w := w3) A3.out; have A5 : 0 ≤ (0 : Int) := (by omega); have A6 : 0 < (l0_2.length : Int) := of_decide_eq_true aG; obtain ⟨C7, D4, A1⟩ := Kd.dM C6.out 0 A5 A6; cases D4; have qi114 : (0 < l0_2.length) = True := eq_true (by omega); (try rw [show ((0 : Int)).toNat = 0 from rfl] at A1); (try rw [Addr.add_zero'] at A1); replace A1 := (HB.out.cell (World.block_lt_of_cell? _ _ A1)).trans A1; replace A5 := eq_true A5; replace A6 := eq_true A6))
 repeat (go_quiet (first | ((with_reducible refine bf (N := 1) rfl ?_); refine cz ?hg (N := 1) ?hd (cs := #[.int .i64 a0_0, .int .i64 a0_1, .slice D3 l0_2.length C8, .slice C9 l0_3.length D0, .slice D1 l0_4.length D2]) (t := 28) ?hr ?_; (case hd => rfl); (case hg => rfl); (case hr => first | (go_simp; done) | (go_simp; rfl)); intro A4 hg w3 hbox hb; have A3 := a_ (hbox); have D6 := a_ ((fG : w.heap.size ≤ A4)); have GE113 := a_ ((fG : w.heap.size ≤ A4)); replace HB := df bO hb; clear hb hbox hg; obtain ⟨A9, B0, B3, B4, B7, C0, C1, C2, C3, C4⟩ := eH (w := w3) A3.out; have A5 : 0 ≤ (0 : Int) := (by omega); have A6 : 0 < (l0_2.length : Int) := of_decide_eq_true aG; obtain ⟨C7, D4, A1⟩ := Kd.dM C6.out 0 A5 A6; cases D4; have qi114 : (0 < l0_2.length) = True := eq_true (by omega); (try rw [show ((0 : Int)).toNat = 0 from rfl] at A1); (try rw [Addr.add_zero'] at A1); replace A1 := (HB.out.cell (World.block_lt_of_cell? _ _ A1)).trans A1; replace A5 := eq_true A5; replace A6 := eq_true A6)); try go_wp2_with (first | ((with_reducible refine bf (N := 1) rfl ?_); refine cz ?hg (N := 1) ?hd (cs := #[.int .i64 a0_0, .int .i64 a0_1, .slice D3 l0_2.length C8, .slice C9 l0_3.length D0, .slice D1 l0_4.length D2]) (t := 28) ?hr ?_; (case hd => rfl); (case hg => rfl); (case hr => first | (go_simp; done) | (go_simp; rfl)); intro A4 hg w3 hbox hb; have A3 := a_ (hbox); have D6 := a_ ((fG : w.heap.size ≤ A4)); have GE113 := a_ ((fG : w.heap.size ≤ A4)); replace HB := df bO hb; clear hb hbox hg; obtain ⟨A9, B0, B3, B4, B7, C0, C1, C2, C3, C4⟩ := eH (w := w3) A3.out; have A5 : 0 ≤ (0 : Int) := (by omega); have A6 : 0 < (l0_2.length : Int) := of_decide_eq_true aG; obtain ⟨C7, D4, A1⟩ := Kd.dM C6.out 0 A5 A6; cases D4; have qi114 : (0 < l0_2.length) = True := eq_true (by omega); (try rw [show ((0 : Int)).toNat = 0 from rfl] at A1); (try rw [Addr.add_zero'] at A1); replace A1 := (HB.out.cell (World.block_lt_of_cell? _ _ A1)).trans A1; replace A5 := eq_true A5; replace A6 := eq_true A6)))
 go_loopg [3, 4] k (fun kq v3 v4 w' => ∃ (C5 : Int) (A2 : Int), v3 = .int .i64 C5 ∧ v4 = .int .i64 A2 ∧ ah (bT.l0 kq C5 A2 a0_0 a0_1 l0_2 l0_3 l0_4 = some r) ∧ ah (kq ≤ k) ∧ ah (w'.heap[A4]? = some (.cells #[.int .i64 a0_0, .int .i64 a0_1, (.slice (some C7) l0_2.length C8), (.slice C9 l0_3.length D0), (.slice D1 l0_4.length D2)] 28 (0, 0))) ∧ ah (Below w.heap.size w w'))
 case atStart => exact ⟨(rd l0_2 0), (0), bZ, bZ, H', ⟨Nat.le_refl _⟩, ⟨by (with_reducible repeat (first | refine dz ?_ _ | refine bU ?_ | refine dx ?_ _)); exact A3.out⟩, ⟨Bv⟩⟩
 case round =>
  clear H'
  try clear G5; try clear G6; try clear A9 B0 B3 B4 B7; try clear C0 C1 C2 C3 C4; try clear A1; try clear A5; try clear A6
  obtain ⟨C5, A2, rfl, rfl, HA, HK1, A3, HB⟩ := hrel
  cases gk with
  | zero => exact absurd HA.out (by simp [bT.l0])
  | succ k1 =>
   have H := HA.out
   clear HA
   simp only [bT.l0] at H
   by_cases c5 : A2 < (l0_2.length : Int)
   ·rw [if_pos c5] at H
    have G7 := decide_eq_true c5
    clear c5
    replace H := ig_ H; obtain ⟨c6, H⟩ := H
    have H5 := decide_eq_true c6
    clear c6
    replace H := ig_ H; obtain ⟨c7, H⟩ := H
    have H6 := decide_eq_true c7
    clear c7
    obtain ⟨E3, D7⟩ : ∃ j_ : Int, (mn (rd l0_2 A2) (rd l0_3 A2)) = j_ := ⟨_, rfl⟩
    replace H : (bT.l0 k1 (mn C5 (E3)) (wrap64 (A2 + 1)) a0_0 a0_1 l0_2 l0_3 l0_4) = some r := by first | (rw [D7] at H; exact H) | (simp only [D7] at H ⊢; exact H)
    have hji8_ : (if (rd l0_3 A2) < (rd l0_2 A2) then (rd l0_3 A2) else (rd l0_2 A2)) = E3 := D7
    obtain ⟨G8, D5⟩ : ∃ j_ : Int, (mn C5 (E3)) = j_ := ⟨_, rfl⟩
    replace H : (bT.l0 k1 G8 (wrap64 (A2 + 1)) a0_0 a0_1 l0_2 l0_3 l0_4) = some r := by first | (rw [D5] at H; exact H) | (simp only [D5] at H ⊢; exact H)
    have hji9_ : (if (E3) < C5 then (E3) else C5) = G8 := D5
    have H' := a_ H
    clear H
    obtain ⟨E5, E6, E7, E8, E9, F0, F1, F2, F3, F4⟩ := eH (w := wr) A3.out
    have D8 : 0 ≤ (A2 : Int) := of_decide_eq_true aG
    have D9 : A2 < (l0_2.length : Int) := of_decide_eq_true aG
    obtain ⟨E4, G9, A7⟩ := Kd.dM C6.out A2 D8 D9
    obtain rfl : C7 = E4 := (by injection G9)
    replace A7 := (HB.out.cell (World.block_lt_of_cell? _ _ A7)).trans A7
    replace D8 := eq_true D8
    replace D9 := eq_true D9
    have E0 : 0 ≤ (A2 : Int) := of_decide_eq_true aG
    have E1 : A2 < (l0_3.length : Int) := of_decide_eq_true aG
    obtain ⟨H4, H0, A8⟩ := Kd.dM E2.out A2 E0 E1
    cases H0
    replace A8 := (HB.out.cell (World.block_lt_of_cell? _ _ A8)).trans A8
    replace E0 := eq_true E0
    replace E1 := eq_true E1
    go_wp2
    repeat (go_quiet (fail); try go_wp2)
    go_roundg k1
    case measure => have := HK1.out; omega
    case rel => exact ⟨(G8), (wrap64 (A2 + 1)), (by first | rfl | (simp; done) | (simp only [← D5] <;> (first | rfl | simp)) | (simp [*]; done)), bZ, H', ⟨jR⟩, ⟨by (with_reducible repeat (first | refine dz ?_ _ | refine bU ?_ | refine dx ?_ _)); exact A3.out⟩, ⟨Bv⟩⟩
   rw [if_neg c5] at H
   have G7 := decide_eq_false c5
   clear c5
   obtain rfl := Option.some.inj H
   obtain ⟨F5, F6, F7, F8, F9, G0, G1, G2, G3, G4⟩ := eH (w := wr) A3.out
   go_wp2
   repeat (go_quiet (fail); try go_wp2)
   go_ret
   exact ⟨fO, Bv⟩
def dI.l0 : Nat → List Int → Int → Int → Option (Bool)
 | 0, _, _, _ => none
 | k + 1, x0, x1, x5 => if x5 < (x0.length : Int) then (if 0 ≤ x5 then (if (rd x0 x5) = x1 then (some true) else (dI.l0 k x0 x1 (wrap64 (x5 + 1)))) else (none)) else (some false)
def dI.f (k : Nat) (l0 : List Int) (a1 : Int) : Option (Bool) := dI.l0 k l0 a1 0
theorem dI.di : ∀ k, (∀ y0 y1 y2, LeO (dI.l0 k y0 y1 y2) (dI.l0 (k + 1) y0 y1 y2))
 | 0 => fun _ _ _ r h => by simp [dI.l0] at h
 | k + 1 => by
  have ih0 := dI.di k
  ·intro y0 y1 y2
   unfold dI.l0
   repeat' first | (with_reducible first | exact ih0 .. | exact LeO.refl .. | exact LeO.none .. | refine LeO.ite ?_ ?_ | refine LeO.bind ?_ (fun _ => ?_))
theorem dI.mono : ∀ a0 a1 k, LeO (dI.f k a0 a1) (dI.f (k + 1) a0 a1) := by
 intro a0 a1 k
 have ih0 := dI.di k
 unfold dI.f
 repeat' first | (with_reducible first | exact ih0 .. | exact LeO.refl .. | exact LeO.none .. | refine LeO.ite ?_ ?_ | refine LeO.bind ?_ (fun _ => ?_))
theorem dI.calls (k : Nat) (A0 : Option Addr) (c0 : Nat) (l0 : List Int) (a1 : Int) (r : Bool) (w : World) (hr0 : Kd.C (Kd.int .i64) w A0 l0.length l0) (hc0 : l0.length ≤ c0) (h : dI.f k l0 a1 = some r) :
  Calls Tryz.prog 69 #[.slice A0 l0.length c0, .int .i64 a1] w fun e w' => e = .returned (.bool r) ∧ eY w w' := by
 have HR0 := a_ hr0
 have B3 := a_ hc0
 clear hr0 hc0
 have H : (dI.l0 k l0 a1 0) = some r := h
 clear h
 have H' := a_ H
 clear H
 go_enter Tryz.func69, Tryz.ntmps69
 go_wp2
 go_loopg [5] k (fun kq v5 w' => ∃ (A1 : Int), v5 = .int .i64 A1 ∧ ah (dI.l0 kq l0 a1 A1 = some r) ∧ ah (kq ≤ k) ∧ eY w w')
 case atStart => exact ⟨(0), bZ, H', ⟨Nat.le_refl _⟩, eQ⟩
 case round =>
  clear H'
  obtain ⟨A1, rfl, HA, HK1, ⟨m1, rfl⟩⟩ := hrel
  cases gk with
  | zero => exact absurd HA.out (by simp [dI.l0])
  | succ k1 =>
   have H := HA.out
   clear HA
   simp only [dI.l0] at H
   by_cases c3 : A1 < (l0.length : Int)
   ·rw [if_pos c3] at H
    have A7 := decide_eq_true c3
    clear c3
    replace H := ig_ H; obtain ⟨c4, H⟩ := H
    have B0 := decide_eq_true c4
    clear c4
    by_cases c5 : (rd l0 A1) = a1
    ·rw [if_pos c5] at H
     have A8 : ((rd l0 A1) == a1) = true := beq_iff_eq.mpr c5
     have A9 : ((rd l0 A1) != a1) = false := bne_eq_false_iff_eq.mpr c5
     clear c5
     obtain rfl := Option.some.inj H
     have A2 : 0 ≤ (A1 : Int) := of_decide_eq_true aG
     have A3 : A1 < (l0.length : Int) := of_decide_eq_true aG
     obtain ⟨A6, A5, A4⟩ := Kd.dM HR0.out A1 A2 A3
     cases A5
     replace A2 := eq_true A2
     replace A3 := eq_true A3
     go_wp2
     go_ret
     exact ⟨fT, eQ⟩
    rw [if_neg c5] at H
    have A8 : ((rd l0 A1) == a1) = false := beq_eq_false_iff_ne.mpr c5
    have A9 : ((rd l0 A1) != a1) = true := bne_iff_ne.mpr c5
    have H' := a_ H
    clear H
    have A2 : 0 ≤ (A1 : Int) := of_decide_eq_true aG
    have A3 : A1 < (l0.length : Int) := of_decide_eq_true aG
    obtain ⟨A6, A5, A4⟩ := Kd.dM HR0.out A1 A2 A3
    cases A5
    replace A2 := eq_true A2
    replace A3 := eq_true A3
    go_wp2
    go_roundg k1
    case measure => have := HK1.out; omega
    case rel => exact ⟨(wrap64 (A1 + 1)), bZ, H', ⟨jR⟩, eQ⟩
   rw [if_neg c3] at H
   have A7 := decide_eq_false c3
   clear c3
   obtain rfl := Option.some.inj H
   go_wp2
   go_ret
   exact ⟨fT, eQ⟩
end Go.Proofs.YtkpidjmhdagkfaaGreatDoor.QFnReadForms
