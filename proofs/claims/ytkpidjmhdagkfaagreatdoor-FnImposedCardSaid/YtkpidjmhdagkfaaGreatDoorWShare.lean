-- Out of the kit's printed words (Derived/Print), cut down by prune.py, their names shortened by mini.py of this session's repo to what this claim names: no longer print.sh's own text.
import Derived.Test.YtkpidjmhdagkfaaGreatDoorWKept
namespace Go.Proofs.YtkpidjmhdagkfaaGreatDoorW.PrintWords
open Go.RowKit
def kw (P : World → Prop) (W : World) (ok : Nat → Prop) : Prop := ∀ W' : World, (∀ k, ok k → k < W.heap.size → W'.heap[k]? = W.heap[k]?) → P W'
theorem zZ {W W1 : World} {k : Nat} (h : W1.heap[k]? = W.heap[k]?) (hlt : k < W.heap.size) : k < W1.heap.size := by
  rw [Array.getElem?_eq_getElem hlt] at h
  exact (Array.getElem?_eq_some_iff.1 h).1
namespace kw
variable {P Q : World → Prop} {W W1 : World} {ok ok' : Nat → Prop}
theorem now (h : kw P W ok) : P W := h W (fun _ _ _ => rfl)
theorem mono (h : kw P W ok) (hok : ∀ k, ok k → ok' k) : kw P W ok' := fun W' hW => h W' (fun k hk hlt => hW k (hok k hk) hlt)
theorem bound (h : kw P W ok) : kw P W (fun k => ok k ∧ k < W.heap.size) := fun W' hW => h W' (fun k hk hlt => hW k ⟨hk, hlt⟩ hlt)
theorem step (h : kw P W ok) (hm : ∀ k, ok k → k < W.heap.size → W1.heap[k]? = W.heap[k]?) : kw P W1 ok := fun W' hW => h W' (fun k hk hlt => (hW k hk (zZ (hm k hk hlt) hlt)).trans (hm k hk hlt))
theorem imp (h : kw P W ok) (hi : ∀ W', P W' → Q W') : kw Q W ok := fun W' hW => hi W' (h W' hW)
theorem old (h : kw P W ok) (hb : Below W.heap.size W W1) : kw P W1 (fun k => ok k ∧ k < W.heap.size) := (h.bound).step (fun k _ hlt => hb.block k hlt)
end kw
namespace Kd
def F {α : Type} (d : Kd α) (W : World) (ok : Nat → Prop) (A : Option Addr) (n : Nat) (xs : List α) : Prop := kw (fun W => d.C W A n xs) W ok
def FK {α : Type} (d : Kd α) (W : World) (ok : Nat → Prop) (x : α) (c : List Value) : Prop := kw (fun W => d.K W x c) W ok
section
variable {α β : Type} {d : Kd α} {e base n n' cc g N : Nat} {ok ok' okp S : Nat → Prop} {w w0 w1 W W1 : World} {A A' : Option Addr} {u v v1 : Value} {xs : List α} {xs' : List β} {d' : Kd β} {x : α} {c : List Value}
theorem Cg (h : F d W ok A n xs) : d.C W A n xs := kw.now h
theorem wB (h : F d W ok A n xs) (hok : ∀ k, ok k → ok' k) : F d W ok' A n xs := kw.mono h hok
theorem zC (h : F d W ok A n xs) : F d W (fun k => ok k ∧ k < W.heap.size) A n xs := kw.bound h
theorem Am (h : F d W ok A n xs) (hm : ∀ k, ok k → k < W.heap.size → W1.heap[k]? = W.heap[k]?) : F d W1 ok A n xs := kw.step h hm
theorem iY (h : F d W ok A n xs) (hb : Below W.heap.size W W1) : F d W1 ok A n xs := Am h (fun k _ hlt => hb.block k hlt)
theorem zm (h : F d W ok A n xs) (o : Obj) : F d (W.alloc o) ok A n xs := iY h (aN (Below.refl _ _) o)
theorem Ba (h : F d W ok A n xs) : F d W.drew ok A n xs := iY h (jT (Below.refl _ _))
theorem zk (h : F d W ok A n xs) (m : Nat) : F d (W.drewN m) ok A n xs := iY h (aD (Below.refl _ _) m)
theorem BG (d : Kd α) (W : World) (ok : Nat → Prop) : F d W ok none ([] : List α).length [] := fun W' _ => BO d W'
theorem yX (h : F d W ok A n xs) (hbase : ∀ k, v.ownBlock = some k → W.heap.size ≤ k) (hb : Below W.heap.size W W1) : F d W1 (fun k => ok k ∧ some k ≠ v.ownBlock) A n xs :=
  wB (kw.old h hb) (fun k hk => ⟨hk.1, fun he => by have := hbase k he.symm; have := hk.2; omega⟩)
theorem yf (h : F d W ok A n xs) (a : Nat) (ha : W.heap.size ≤ a) : F d W (fun k => ok k ∧ k ≠ a) A n xs := wB (zC h) (fun k hk => ⟨hk.1, by have := hk.2; omega⟩)
theorem C_F (hd : Heap d) (h : d.C w A n xs) : F d w (fun k => k < w.heap.size) A n xs := fun _ hW => hd.C (fun k hlt => hW k hlt hlt) h
theorem R_F (h : d.R e W base ok (.slice A n cc) xs) : F d W ok A n xs := fun W' hW => by
  have h2 := aI (qI h hW)
  rw [h2.1]
  exact h2.2.2
theorem vR (h : FK d W ok x c) : d.K W x c := kw.now h
theorem tZ (h : FK d W ok x c) (hok : ∀ k, ok k → ok' k) : FK d W ok' x c := kw.mono h hok
theorem uw (h : FK d W ok x c) : FK d W (fun k => ok k ∧ k < W.heap.size) x c := kw.bound h
theorem wK (h : FK d W ok x c) (hm : ∀ k, ok k → k < W.heap.size → W1.heap[k]? = W.heap[k]?) : FK d W1 ok x c := kw.step h hm
theorem zL (h : d.M W base ok x c) : FK d W ok x c := fun _ hW => d.K_of_M (yI h hW)
end
end Kd
end Go.Proofs.YtkpidjmhdagkfaaGreatDoorW.PrintWords
