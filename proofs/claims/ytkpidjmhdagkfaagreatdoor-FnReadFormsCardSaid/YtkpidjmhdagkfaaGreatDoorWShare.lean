-- Out of the kit's printed words (Derived/Print), cut down by prune.py, their names shortened by mini.py of this session's repo to what this claim names: no longer print.sh's own text.
import Derived.Test.YtkpidjmhdagkfaaGreatDoorWKept
namespace Go.Proofs.YtkpidjmhdagkfaaGreatDoorW.PrintWords
open Go.RowKit
def ku (P : World → Prop) (W : World) (ok : Nat → Prop) : Prop := ∀ W' : World, (∀ k, ok k → k < W.heap.size → W'.heap[k]? = W.heap[k]?) → P W'
theorem zL {W W1 : World} {k : Nat} (h : W1.heap[k]? = W.heap[k]?) (hlt : k < W.heap.size) : k < W1.heap.size := by
  rw [Array.getElem?_eq_getElem hlt] at h
  exact (Array.getElem?_eq_some_iff.1 h).1
namespace ku
variable {P Q : World → Prop} {W W1 : World} {ok ok' : Nat → Prop}
theorem now (h : ku P W ok) : P W := h W (fun _ _ _ => rfl)
theorem mono (h : ku P W ok) (hok : ∀ k, ok k → ok' k) : ku P W ok' := fun W' hW => h W' (fun k hk hlt => hW k (hok k hk) hlt)
theorem bound (h : ku P W ok) : ku P W (fun k => ok k ∧ k < W.heap.size) := fun W' hW => h W' (fun k hk hlt => hW k ⟨hk, hlt⟩ hlt)
theorem step (h : ku P W ok) (hm : ∀ k, ok k → k < W.heap.size → W1.heap[k]? = W.heap[k]?) : ku P W1 ok := fun W' hW => h W' (fun k hk hlt => (hW k hk (zL (hm k hk hlt) hlt)).trans (hm k hk hlt))
theorem imp (h : ku P W ok) (hi : ∀ W', P W' → Q W') : ku Q W ok := fun W' hW => hi W' (h W' hW)
theorem old (h : ku P W ok) (hb : Below W.heap.size W W1) : ku P W1 (fun k => ok k ∧ k < W.heap.size) := (h.bound).step (fun k _ hlt => hb.block k hlt)
end ku
namespace Kd
def F {α : Type} (d : Kd α) (W : World) (ok : Nat → Prop) (A : Option Addr) (n : Nat) (xs : List α) : Prop := ku (fun W => d.C W A n xs) W ok
def FK {α : Type} (d : Kd α) (W : World) (ok : Nat → Prop) (x : α) (c : List Value) : Prop := ku (fun W => d.K W x c) W ok
section
variable {α β : Type} {d : Kd α} {e base n n' cc g N : Nat} {ok ok' okp S : Nat → Prop} {w w0 w1 W W1 : World} {A A' : Option Addr} {u v v1 : Value} {xs : List α} {xs' : List β} {d' : Kd β} {x : α} {c : List Value}
theorem Cj (h : F d W ok A n xs) : d.C W A n xs := ku.now h
theorem vV (h : F d W ok A n xs) (hok : ∀ k, ok k → ok' k) : F d W ok' A n xs := ku.mono h hok
theorem zw (h : F d W ok A n xs) : F d W (fun k => ok k ∧ k < W.heap.size) A n xs := ku.bound h
theorem AA (h : F d W ok A n xs) (hm : ∀ k, ok k → k < W.heap.size → W1.heap[k]? = W.heap[k]?) : F d W1 ok A n xs := ku.step h hm
theorem jg (h : F d W ok A n xs) (hb : Below W.heap.size W W1) : F d W1 ok A n xs := AA h (fun k _ hlt => hb.block k hlt)
theorem zu (h : F d W ok A n xs) (o : Obj) : F d (W.alloc o) ok A n xs := jg h (aW (Below.refl _ _) o)
theorem Az (h : F d W ok A n xs) : F d W.drew ok A n xs := jg h (jV (Below.refl _ _))
theorem zx (h : F d W ok A n xs) (m : Nat) : F d (W.drewN m) ok A n xs := jg h (aN (Below.refl _ _) m)
theorem Ci (d : Kd α) (W : World) (ok : Nat → Prop) : F d W ok none ([] : List α).length [] := fun W' _ => Ch d W'
theorem yf (h : F d W ok A n xs) (hbase : ∀ k, v.ownBlock = some k → W.heap.size ≤ k) (hb : Below W.heap.size W W1) : F d W1 (fun k => ok k ∧ some k ≠ v.ownBlock) A n xs :=
  vV (ku.old h hb) (fun k hk => ⟨hk.1, fun he => by have := hbase k he.symm; have := hk.2; omega⟩)
theorem yg (h : F d W ok A n xs) (a : Nat) (ha : W.heap.size ≤ a) : F d W (fun k => ok k ∧ k ≠ a) A n xs := vV (zw h) (fun k hk => ⟨hk.1, by have := hk.2; omega⟩)
theorem C_F (hd : Heap d) (h : d.C w A n xs) : F d w (fun k => k < w.heap.size) A n xs := fun _ hW => hd.C (fun k hlt => hW k hlt hlt) h
theorem vU (h : FK d W ok x c) : d.K W x c := ku.now h
theorem tV (h : FK d W ok x c) (hok : ∀ k, ok k → ok' k) : FK d W ok' x c := ku.mono h hok
theorem uJ (h : FK d W ok x c) : FK d W (fun k => ok k ∧ k < W.heap.size) x c := ku.bound h
theorem wQ (h : FK d W ok x c) (hm : ∀ k, ok k → k < W.heap.size → W1.heap[k]? = W.heap[k]?) : FK d W1 ok x c := ku.step h hm
theorem zt (h : d.M W base ok x c) : FK d W ok x c := fun _ hW => d.K_of_M (yh h hW)
end
end Kd
end Go.Proofs.YtkpidjmhdagkfaaGreatDoorW.PrintWords
