-- Out of the kit's printed words (Derived/Print), cut down by prune.py, their names shortened by mini.py of this session's repo to what this claim names: no longer print.sh's own text.
import Derived.Test.YtkpidjmhdagkfaaGreatDoorWLast
import Derived.Test.YtkpidjmhdagkfaaGreatDoorWWords
namespace Go.Proofs.YtkpidjmhdagkfaaGreatDoorW.PrintLast
open Go.Proofs.YtkpidjmhdagkfaaGreatDoorW.PrintWords (af)
def ng (md : Region.Mode) (o : Oper) : List Nat := (o.after.toList.filter (fun e => Region.binds md e)).map (fun e => e.on)
def tX (md : Region.Mode) (ops : Array Oper) (i : Nat) (oi : Oper) : List Nat := (List.range ops.size).filter fun j => !(j == i) && match ops[j]? with
  | some oj => !(oj.after.any (fun e => Region.binds md e && e.on == i) || oi.apart ops oj)
  | none => false
def ig (md : Region.Mode) (ops : Array Oper) : Bool × List (List Nat × List Nat) := (Region.noSelect ops, (List.range ops.size).map fun i => match ops[i]? with
  | some o => (ng md o, tX md ops i o)
  | none => ([], []))
def jV (T : List (List Nat × List Nat)) (l : List Bool) (i : Nat) : Bool := !l.getD i true && match T[i]? with
  | some r => r.1.all (fun j => l.getD j false)
  | none => false
def nJ (T : List (List Nat × List Nat)) (l : List Bool) : List Nat := (List.range T.length).filter (jV T l)
def uI (T : List (List Nat × List Nat)) (l : List Bool) (i : Nat) : Bool := match T[i]? with
  | some r => r.2.all (fun j => l.getD j true)
  | none => false
def qb (T : List (List Nat × List Nat)) (l : List Bool) : Bool := (List.range T.length).all fun j => !l.getD j false || match T[j]? with
  | some r => r.1.all (fun k => l.getD k false)
  | none => true
def oJ (T : List (List Nat × List Nat)) (i : Nat) : Nat → Nat → Bool
  | 0, _ => false
  | fuel + 1, d => match T[d]? with
    | some r => r.1.any fun j => j == i || oJ T i fuel j
    | none => false
def lastT (T : List (List Nat × List Nat)) (l : List Bool) (ds : List Nat) (i : Nat) : Bool := ds.all fun d => l.getD d true || oJ T i T.length d
section
variable {md : Region.Mode} {ops : Array Oper} {T : Bool × List (List Nat × List Nat)} {l l' li lj lk : Array Bool} {ds : List Nat} {i j k : Nat}
theorem gd (l : Array Bool) (j : Nat) (b : Bool) : l.getD j b = l.toList.getD j b := by simp [Array.getD_eq_getD_getElem?, List.getD_eq_getElem?_getD]
theorem rU (o : Oper) (p : Nat → Bool) : o.after.all (fun e => !Region.binds md e || p e.on) = (ng md o).all p := by
  unfold ng
  rw [← Array.all_toList]
  induction o.after.toList with
  | nil => rfl
  | cons e r ih =>
    rw [List.all_cons, ih, List.filter_cons]
    cases h : Region.binds md e <;> simp
theorem xn (o : Oper) (p : Nat → Bool) : o.after.any (fun e => Region.binds md e && p e.on) = (ng md o).any p := by
  unfold ng
  rw [← Array.any_toList]
  induction o.after.toList with
  | nil => rfl
  | cons e r ih =>
    rw [List.any_cons, ih, List.filter_cons]
    cases h : Region.binds md e <;> simp
theorem lc : (ig md ops).2.length = ops.size := by simp [ig]
theorem mJ {o : Oper} (h : ops[i]? = some o) : (ig md ops).2[i]? = some (ng md o, tX md ops i o) := by
  have hi := (Array.getElem?_eq_some_iff.1 h).1
  unfold ig
  rw [List.getElem?_map, List.getElem?_range hi, Option.map_some, h]
theorem mY (h : ops[i]? = none) : (ig md ops).2[i]? = none := by
  have hi : ops.size ≤ i := Array.getElem?_eq_none_iff.1 h
  exact List.getElem?_eq_none (by rw [lc]; exact hi)
theorem wy : jV (ig md ops).2 l.toList i = (!l.getD i true && ((ops[i]?).map (·.after.all fun e => !Region.binds md e || l.getD e.on false)).getD false) := by
  unfold jV
  rw [gd]
  cases h : ops[i]? with
  | none => rw [mY h]; rfl
  | some o =>
    rw [mJ h]
    simp only [Option.map_some, Option.getD_some]
    rw [← rU]
    simp only [gd]
theorem ready_eq : Region.ready md ops l = nJ (ig md ops).2 l.toList := by
  unfold Region.ready nJ
  rw [lc]
  refine List.filter_congr (fun i _ => ?_)
  rw [wy]
theorem free_eq : Region.free md ops l i = uI (ig md ops).2 l.toList i := by
  unfold Region.free uI
  cases h : ops[i]? with
  | none => rw [mY h]
  | some oi =>
    rw [mJ h]
    simp only [tX]
    rw [List.all_filter]
    congr 1
    funext j
    rw [gd]
    cases hj : ops[j]? with
    | none => cases (j == i) <;> cases (l.toList.getD j true) <;> simp
    | some oj =>
      cases (j == i) <;> cases (l.toList.getD j true) <;> cases (oj.after.any (fun e => Region.binds md e && e.on == i) || oi.apart ops oj) <;> simp_all
theorem xR : Region.oG md ops l = qb (ig md ops).2 l.toList := by
  unfold Region.oG qb
  rw [lc]
  congr 1
  funext j
  rw [gd]
  cases h : ops[j]? with
  | none => rw [mY h]
  | some o =>
    rw [mJ h]
    simp only
    rw [← rU]
    simp only [gd]
theorem vD : ∀ (fuel d : Nat), Region.jZ md ops i fuel d = oJ (ig md ops).2 i fuel d
  | 0, _ => rfl
  | fuel + 1, d => by
    unfold Region.jZ oJ
    cases h : ops[d]? with
    | none => rw [mY h]
    | some o =>
      rw [mJ h]
      simp only
      rw [← xn]
      congr 1
      funext e
      rw [vD fuel]
theorem zJ : Region.lastB md ops l ds i = lastT (ig md ops).2 l.toList ds i := by
  unfold Region.lastB lastT
  rw [lc]
  congr 1
  funext d
  rw [gd, vD]
theorem pM (h : jV T.2 l.toList i = true) (hT : ig md ops = T) : (Region.ready md ops l).contains i = true := by
  subst hT
  rw [ready_eq]
  unfold nJ
  rw [List.contains_iff_mem, List.mem_filter, List.mem_range]
  refine ⟨?_, h⟩
  unfold jV at h
  rw [Bool.and_eq_true] at h
  cases hq : (ig md ops).2[i]? with
  | none => rw [hq] at h; simp at h
  | some r => exact (List.getElem?_eq_some_iff.1 hq).1
theorem vV (h : (l.toList.set i true == l'.toList) = true) : (l.setIfInBounds i true == l') = true := by
  rw [beq_iff_eq] at h ⊢
  apply Array.ext'
  rw [Array.toList_setIfInBounds]
  exact h
def BC (T : Bool × List (List Nat × List Nat)) (l l' : List Bool) (i : Nat) : Bool := T.1 && uI T.2 l i && jV T.2 l i && (l.set i true == l')
theorem lU (hT : ig md ops = T) (h : BC T l.toList l'.toList i = true) : yg md ops l l' i = true := by
  simp only [BC, Bool.and_eq_true] at h
  obtain ⟨⟨⟨h1, h2⟩, h3⟩, h4⟩ := h
  have h5 := pM h3 hT
  have h6 := vV h4
  subst hT
  simp only [yg, Bool.and_eq_true]
  exact ⟨⟨⟨h1, by rw [free_eq]; exact h2⟩, h5⟩, h6⟩
def zg (T : Bool × List (List Nat × List Nat)) (ds : List Nat) (l l' : List Bool) (i : Nat) : Bool := T.1 && uI T.2 l i && jV T.2 l i && qb T.2 l && lastT T.2 l ds i && (l.set i true == l')
theorem zQ (hT : ig md ops = T) (h : zg T ds l.toList l'.toList i = true) : takeB md ops ds l l' i = true := by
  simp only [zg, Bool.and_eq_true] at h
  obtain ⟨⟨⟨⟨⟨h1, h2⟩, h3⟩, h4⟩, h5⟩, h6⟩ := h
  have h7 := pM h3 hT
  have h8 := vV h6
  subst hT
  simp only [takeB, Bool.and_eq_true]
  exact ⟨⟨⟨⟨⟨h1, by rw [free_eq]; exact h2⟩, h7⟩, by rw [xR]; exact h4⟩, by rw [zJ]; exact h5⟩, h8⟩
theorem yS (hT : ig md ops = T) (h : (nJ T.2 l.toList == [i] && l.toList.set i true == l'.toList) = true) : mi md ops l l' i = true := by
  simp only [Bool.and_eq_true] at h
  obtain ⟨h1, h2⟩ := h
  subst hT
  simp only [mi, Bool.and_eq_true]
  exact ⟨by rw [ready_eq]; exact h1, vV h2⟩
theorem iw (hT : ig md ops = T) (h : (nJ T.2 l.toList == []) = true) : (Region.ready md ops l == []) = true := by
  subst hT
  rw [ready_eq]
  exact h
def upM (B : List Nat) (d : Nat) : List Nat → Nat
  | [] => 0
  | n :: r => (2 ^ n ||| (if n < d then B.getD n 0 else 0)) ||| upM B d r
def gm (T : List (List Nat × List Nat)) (B : List Nat) : Bool := (List.range T.length).all fun d => match T[d]? with
  | some r => (B.getD d 0 ||| upM B d r.1) == upM B d r.1
  | none => false
theorem lN {B : List Nat} {d i : Nat} : ∀ {ns : List Nat}, (upM B d ns).testBit i = true → ∃ n ∈ ns, n = i ∨ (n < d ∧ (B.getD n 0).testBit i = true)
  | [], h => by simp [upM] at h
  | n :: r, h => by
    unfold upM at h
    rw [Nat.testBit_or, Nat.testBit_or, Bool.or_eq_true, Bool.or_eq_true] at h
    rcases h with (h | h) | h
    · rw [Nat.testBit_two_pow] at h
      exact ⟨n, List.mem_cons_self, .inl (by simpa using h)⟩
    · by_cases hn : n < d
      · rw [if_pos hn] at h
        exact ⟨n, List.mem_cons_self, .inr ⟨hn, h⟩⟩
      · rw [if_neg hn] at h
        simp at h
    · obtain ⟨m, hm, h2⟩ := lN h
      exact ⟨m, List.mem_cons_of_mem _ hm, h2⟩
theorem rY {T : List (List Nat × List Nat)} {B : List Nat} (hB : gm T B = true) : ∀ (fuel d : Nat), d < fuel → d < T.length → (B.getD d 0).testBit i = true → oJ T i fuel d = true
  | 0, d, h, _, _ => by omega
  | fuel + 1, d, h, hd, hb => by
    have h1 := List.all_eq_true.1 hB d (List.mem_range.2 hd)
    cases hr : T[d]? with
    | none => rw [hr] at h1; simp at h1
    | some r =>
      rw [hr] at h1
      simp only [beq_iff_eq] at h1
      have h2 : (upM B d r.1).testBit i = true := by rw [← h1, Nat.testBit_or, hb, Bool.true_or]
      obtain ⟨n, hn, h3⟩ := lN h2
      unfold oJ
      rw [hr]
      simp only
      rw [List.any_eq_true]
      refine ⟨n, hn, ?_⟩
      rcases h3 with rfl | ⟨h4, h5⟩
      · simp
      · rw [rY hB fuel n (by omega) (by omega) h5, Bool.or_true]
def Ad (T : List (List Nat × List Nat)) (B : List Nat) (l : List Bool) (ds : List Nat) (i : Nat) : Bool := ds.all fun d => l.getD d true || (decide (d < T.length) && (B.getD d 0).testBit i)
def Ab (T : Bool × List (List Nat × List Nat)) (B : List Nat) (ds : List Nat) (l l' : List Bool) (i : Nat) : Bool := T.1 && uI T.2 l i && jV T.2 l i && qb T.2 l && Ad T.2 B l ds i && (l.set i true == l')
theorem kL {B : List Nat} (hT : ig md ops = T) (hB : gm T.2 B = true) (h : Ab T B ds l.toList l'.toList i = true) : takeB md ops ds l l' i = true := by
  refine zQ hT ?_
  simp only [Ab, zg, Bool.and_eq_true] at h ⊢
  obtain ⟨⟨⟨⟨⟨h1, h2⟩, h3⟩, h4⟩, h5⟩, h6⟩ := h
  refine ⟨⟨⟨⟨⟨h1, h2⟩, h3⟩, h4⟩, ?_⟩, h6⟩
  unfold Ad at h5
  unfold lastT
  rw [List.all_eq_true] at h5 ⊢
  intro d hd
  have h7 := h5 d hd
  rw [Bool.or_eq_true, Bool.and_eq_true, decide_eq_true_eq] at h7
  rcases h7 with h7 | ⟨h8, h9⟩
  · rw [h7, Bool.true_or]
  · rw [rY hB _ d h8 h8 h9, Bool.or_true]
theorem fq {P : Program} {Q : Exit → Act → World → Prop} {S : World → Prop} {n : Nat} {a : Act} {w : World} {B : List Nat} (hT : ig md ops = T) (hB : gm T.2 B = true) (h : af (ig md ops = T) → af (gm T.2 B = true) → cZ P md ops Q S ds n l a w) : cZ P md ops Q S ds n l a w := h ⟨hT⟩ ⟨hB⟩
end
def nD : Code → Nat → Option (Array Oper)
  | .region id ops _, k => if id == k then some ops else none
  | .seq a b, k => match nD a k with
    | some o => some o
    | none => nD b k
  | .cond _ a b, k => match nD a k with
    | some o => some o
    | none => nD b k
  | .block _ c, k => nD c k
  | .loop c, k => nD c k
  | .scope c, k => nD c k
  | .rangeFunc _ _ a b, k => match nD a k with
    | some o => some o
    | none => nD b k
  | _, _ => none
def opsOf (f : Func) (k : Nat) : Array Oper := ((f.body.bind fun c => nD c k)).getD #[]
end Go.Proofs.YtkpidjmhdagkfaaGreatDoorW.PrintLast
