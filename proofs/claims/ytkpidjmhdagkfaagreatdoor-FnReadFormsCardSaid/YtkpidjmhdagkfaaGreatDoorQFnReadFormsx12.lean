-- Written by own_print.py of this session's repo over the kit's print (its output, turned at some places).
import Derived.Test.YtkpidjmhdagkfaaGreatDoorQFnReadFormsx0
import Derived.Test.YtkpidjmhdagkfaaGreatDoorQFnReadFormsx4
import Derived.Test.YtkpidjmhdagkfaaGreatDoorQFnReadFormsx5
import Derived.Test.YtkpidjmhdagkfaaGreatDoorQFnReadFormsx7
namespace Go.Proofs.YtkpidjmhdagkfaaGreatDoor.QFnReadForms
open Go.RowKit Go.Proofs.YtkpidjmhdagkfaaGreatDoorW.PrintWords Go.Proofs.YtkpidjmhdagkfaaGreatDoorW.PrintLast Go.Proofs.YtkpidjmhdagkfaaGreatDoorW.PrintMore
attribute [local go_sem] ik iq iR iT gD gF il iw
set_option maxHeartbeats 40000000
set_option maxRecDepth 100000
set_option linter.unusedVariables false
set_option linter.unusedSimpArgs false
def fQ (f : Nat → Nat → ByteArray → List ByteArray) (a c : Nat) (d : ByteArray) (ch : UInt8) : List ByteArray := if ch = 66 ∨ ch = 84 then (if 0 < c then f a (c - 1) (d ++ (⟨#[ch]⟩ : ByteArray)) else []) else (if 0 < a then f (a - 1) c (d ++ (⟨#[ch]⟩ : ByteArray)) else [])
def eX : Nat → Nat → Nat → ByteArray → List ByteArray
 | 0, _, _, d => [d]
 | n + 1, a, c, d => fQ (eX n) a c d 66 ++ (fQ (eX n) a c d 76 ++ (fQ (eX n) a c d 82 ++ (fQ (eX n) a c d 84 ++ [])))
def kQ {σ : Type} (stp : ByteArray → σ → Option (Bool × σ)) : List ByteArray → σ → Option (Bool × σ)
 | [], x => some (false, x)
 | s :: t, x => (stp s x).bind fun r => if r.1 = true then some (true, r.2) else kQ stp t r.2
theorem iN {σ : Type} (stp : ByteArray → σ → Option (Bool × σ)) : ∀ (l m : List ByteArray) (x : σ), kQ stp (l ++ m) x = (kQ stp l x).bind fun r => if r.1 = true then some (true, r.2) else kQ stp m r.2
 | [], m, x => rfl
 | s :: t, m, x => by
  rw [List.cons_append, kQ, kQ]
  cases stp s x with
  | none => rfl
  | some r =>
   simp only [Option.bind_some]
   cases h : r.1 with
   | true => rfl
   | false => simp only [Bool.false_eq_true, if_false]; exact iN stp t m r.2
theorem yY {σ : Type} {stp : ByteArray → σ → Option (Bool × σ)} {s : ByteArray} {x y : σ} {b : Bool} (h : kQ stp [s] x = some (b, y)) : stp s x = some (b, y) := by
 rw [kQ] at h
 cases hs : stp s x with
 | none => rw [hs] at h; cases h
 | some r =>
  rw [hs] at h
  simp only [Option.bind_some] at h
  obtain ⟨c, z⟩ := r
  cases c with
  | true => exact h
  | false => exact h
theorem tF {σ : Type} {p q : ByteArray → σ → Option (Bool × σ)} (h : ∀ s x, LeO (p s x) (q s x)) : ∀ (l : List ByteArray) (x : σ), LeO (kQ p l x) (kQ q l x)
 | [], _ => LeO.refl _
 | s :: t, x => LeO.bind (h s x) (fun r => LeO.ite (LeO.refl _) (tF h t r.2))
def iQ (F : Nat → Prop) (W W' : World) : Prop := W.heap.size ≤ W'.heap.size ∧ ∀ k, F k → W'.heap[k]? = W.heap[k]?
theorem iQ.trans {F : Nat → Prop} {W W' W2 : World} (h : iQ F W W') (h2 : iQ F W' W2) : iQ F W W2 := ⟨Nat.le_trans h.1 h2.1, fun k hk => (h2.2 k hk).trans (h.2 k hk)⟩
theorem iQ.sub {F F' : Nat → Prop} {W W' : World} (h : iQ F' W W') (hs : ∀ k, F k → F' k) : iQ F W W' := ⟨h.1, fun k hk => h.2 k (hs k hk)⟩
theorem qf {W : World} {b : Nat} {o : Obj} (h : W.heap[b]? = some o) : b < W.heap.size := (Array.getElem?_eq_some_iff.1 h).1
theorem scL {P : Program} {ops : Array Oper} {Q : Exit → Act → World → Prop} {rest : List Oper} {oi : Oper} {a : Act} {w : World} (t : Tmp) (N : Option Tmp) (hd : oi.dst = N) (hg : oi.guard = none) {f : FuncId} {fn : Func} {as1 : Array Operand} {ts : Array TypeId} {cap : Array Value} (hf : P.funcs[f]? = some fn) (hname : (fn.name == "runtime.NumGoroutine") = false) (hb : fn.body.isSome = true) (args as0 : Array Value)
  (hop : oi.op = .call { callee := .value (.tmp t), args := as1, argTypes := ts }) (ht : a.eval (.tmp t) = .func (.func f) #[] cap) (has : as1.map a.eval = as0) (hargs : as0 ++ cap = args)
  (h : Calls P f args w fun e w' => ∃ v, e = .returned v ∧ wpList P ops Q rest (a.put N v) w') : wpList P ops Q (oi :: rest) a w := by
 refine wpList_plain hg fun K hK => ?_
 have he := qF hf hname hb args w
 have hrun : (execOp a.eval oi).run P w = .ok (.enter f args) w := by
  unfold execOp
  simp [hop, resolve, Deferred.ofValue, invoke, ht, has]
  rw [hargs]
  exact he
 unfold Oper.wp
 rw [hrun, Oper.upon_enter]
 refine h.mono fun e w'' hh => ?_
 obtain ⟨v, rfl, hk⟩ := hh
 subst hd
 exact hK _ _ hk
theorem yZ {σ : Type} {CF : FuncId} {fn : Func} (cap : Array Value) (stp : ByteArray → σ → Option (Bool × σ)) (Inv : (Nat → Prop) → σ → World → Prop) (w : World) (hf : Tryz.prog.funcs[CF]? = some fn) (hname : (fn.name == "runtime.NumGoroutine") = false) (hb : fn.body.isSome = true)
  (hsz : ∀ F x W, Inv F x W → w.heap.size ≤ W.heap.size ∧ ∀ k, F k → k < W.heap.size)
  (hit : ∀ F x W s, Inv F x W → Inv (fun k => F k ∨ k = W.heap.size) x (W.alloc (.stringIter s 0)))
  (hst : ∀ F x W s p q kI, Inv F x W → F kI → W.heap[kI]? = some (.stringIter s p) → w.heap.size ≤ kI → Inv F x (W.iterAt kI s q))
  (hle : ∀ F F' x W, Inv F' x W → (∀ k, F k → F' k) → Inv F x W)
  (hcl : ∀ F x W s b y, Inv F x W → stp s x = some (b, y) → Calls Tryz.prog CF (#[.string s] ++ cap) W fun e W' => e = .returned (.bool b) ∧ Inv F y W' ∧ iQ F W W') :
  ∀ (n a c : Nat) (s : ByteArray) (x y : σ) (b : Bool) (F : Nat → Prop) (W : World), a + c = n → s.size + n ≤ 100 → Inv F x W → kQ stp (eX n a c s) x = some (b, y) →
  Calls Tryz.prog 73 #[.int .i64 (a : Int), .int .i64 (c : Int), .string s, .func (.func CF) #[] cap] W fun e W' => e = .returned (.bool b) ∧ Inv F y W' ∧ iQ F W W' := by
 have HFN := a_ hf
 have HNM := a_ hname
 have HBD := a_ hb
 have HSZ := a_ hsz
 have HIT := a_ hit
 have HST := a_ hst
 have HLE := a_ hle
 have HCL := a_ hcl
 clear hf hname hb hsz hit hst hle hcl
 intro n
 induction n with
 | zero =>
  intro a c s x y b F W hn hs hI hr
  obtain rfl : a = 0 := by omega
  obtain rfl : c = 0 := by omega
  have HI := a_ hI
  have HR := a_ (yY hr)
  clear hI hr
  go_enter Tryz.func73, Tryz.ntmps73
  go_wp2_with ((with_reducible refine bf (N := 19) rfl ?_); refine scL 17 (some 19) rfl rfl HFN.out HNM.out HBD.out (#[.string s] ++ cap) #[.string s] rfl rfl qh rfl ?_; refine (HCL.out F x _ s b y HI.out HR.out).mono ?_; rintro e w1 ⟨rfl, hI1, hk1⟩; refine ⟨_, rfl, ?_⟩; have HI1 := a_ hI1; have HK1 := a_ hk1; clear hI1 hk1)
  go_ret
  exact ⟨rfl, HI1.out, HK1.out⟩
 | succ n ih =>
  intro a c s x y b F W hn hs hI hr
  have HIH := a_ ih
  have HS := a_ hs
  have HR := a_ hr
  have n4 : (9223372036854775807 < s.size + 1) = False := eq_false (by omega)
  have n5 : decide (s.size + 1 ≤ 9223372036854775807) = true := decide_eq_true (by omega)
  have HWS := a_ (HSZ.out _ _ _ hI).1
  have HFS := a_ (HSZ.out _ _ _ hI).2
  have i1 := HIT.out F x W (⟨#[66, 76, 82, 84]⟩ : ByteArray) hI
  have i2 : (W.alloc (.stringIter (⟨#[66, 76, 82, 84]⟩ : ByteArray) 0)).heap[W.heap.size]? = some (.stringIter (⟨#[66, 76, 82, 84]⟩ : ByteArray) 0) := heap_alloc_new _ _
  have i3 : iQ F W (W.alloc (.stringIter (⟨#[66, 76, 82, 84]⟩ : ByteArray) 0)) := ⟨by simp, fun k hk => Lib.alloc_old _ _ _ (HFS.out k hk)⟩
  clear ih hI hs hr
  have HC := a_ hn
  clear hn
  rcases a with _ | a
  ·skip
   have nc : (((c : Nat) : Int) == 0) = false := by rw [beq_eq_false_iff_ne]; have := HC.out; omega
   have gc : decide (((c : Nat) : Int) > 0) = true := decide_eq_true (by have := HC.out; omega)
   have HCc := a_ (show 0 < c by have := HC.out; omega)
   have gcn : decide (0 < c) = true := decide_eq_true HCc.out
   have m1 : wrap64 (((c : Nat) : Int) - 1) = ((c - 1 : Nat) : Int) := by have := HC.out; have := HS.out; unfold wrap64; omega
   have m2 : IntKind.i64.wrap (((c : Nat) : Int) - 1) = ((c - 1 : Nat) : Int) := (eU _).trans m1
   go_enter Tryz.func73, Tryz.ntmps73
   go_wp2
   change Code.wp _ _ _ _ (W.alloc (.stringIter (⟨#[66, 76, 82, 84]⟩ : ByteArray) 0))
   have I1 := a_ i1
   have I2 := a_ i2
   have I3 := a_ i3
   clear i1 i2 i3
   generalize W.alloc (.stringIter (⟨#[66, 76, 82, 84]⟩ : ByteArray) 0) = w0 at I1 I2 I3 ⊢
   obtain ⟨kI, hkI⟩ : ∃ kI : Nat, W.heap.size = kI := ⟨_, rfl⟩
   obtain ⟨F', hF'⟩ : ∃ F' : Nat → Prop, (fun k => F k ∨ k = kI) = F' := ⟨_, rfl⟩
   have HFk := a_ (show F' kI by rw [← hF']; exact .inr rfl)
   have HFF := a_ (show ∀ k, F k → F' k ∧ k ≠ kI by rw [← hF']; exact fun k hk => ⟨.inl hk, fun e => by have := HFS.out k hk; omega⟩)
   rw [hkI] at I1 I2 HWS ⊢
   rw [hF'] at I1
   clear hkI hF' HFS
   go_loopg [] 5 (fun kq W' => ∃ (p : Nat) (rest : List ByteArray) (x1 : σ), ah (p + kq = 5 ∧ p ≤ 4) ∧ ah (W'.heap[kI]? = some (.stringIter (⟨#[66, 76, 82, 84]⟩ : ByteArray) p)) ∧ ah (Inv F' x1 W') ∧ ah (iQ F W W') ∧ ah (kQ stp rest x1 = some (b, y) ∧ rest = (([66, 76, 82, 84] : List UInt8).drop p).foldr (fun ch r => fQ (eX n) 0 c s ch ++ r) []))
   case atStart => exact ⟨0, _, x, ⟨by omega, by omega⟩, I2, I1, I3, ⟨by have h := HR.out; rw [eX] at h; exact h, rfl⟩⟩
   case round =>
    clear I1 I2 I3 HR
    obtain ⟨p, rest, x1, HP, HK, HI, HT, HA⟩ := hrel
    have hp := HP.out
    cases gk with
    | zero => exact absurd HP.out (fun h => by omega)
    | succ k1 =>
     have hpc : p = 0 ∨ p = 1 ∨ p = 2 ∨ p = 3 ∨ p = 4 := by omega
     clear hp
     rcases hpc with rfl | rfl | rfl | rfl | rfl
     ·have hnx : (Instr.next (.pointer (some ⟨kI, 0, none⟩)) true 0).run Tryz.prog wr = .ok (.tuple #[.bool true, .int .i64 (0 : Nat), .int .i32 ((66 : UInt8).toNat : Int)]) (wr.iterAt kI (⟨#[66, 76, 82, 84]⟩ : ByteArray) (0 + 1)) := Lib.run_next_ascii_at wr kI (⟨#[66, 76, 82, 84]⟩ : ByteArray) 0 0 HK.out (by decide) (by decide)
      rw [show ((66 : UInt8).toNat : Int) = 66 from rfl] at hnx
      have HI2 := a_ (HST.out F' x1 wr (⟨#[66, 76, 82, 84]⟩ : ByteArray) 0 (0 + 1) kI HI.out HFk.out HK.out HWS.out)
      have HK2 := a_ (Lib.iterAt_heap wr kI (⟨#[66, 76, 82, 84]⟩ : ByteArray) 0 (0 + 1) HK.out)
      have HT2 := a_ (HT.out.trans (show iQ F wr (wr.iterAt kI (⟨#[66, 76, 82, 84]⟩ : ByteArray) (0 + 1)) from ⟨lY, fun k hk => Lib.iterAt_other _ _ _ _ _ (HFF.out k hk).2⟩))
      have hcv : (convert 21 9 (.int .i32 66)).run Tryz.prog (wr.iterAt kI (⟨#[66, 76, 82, 84]⟩ : ByteArray) (0 + 1)) = .ok (.string (⟨#[66]⟩ : ByteArray)) (wr.iterAt kI (⟨#[66, 76, 82, 84]⟩ : ByteArray) (0 + 1)) := by rfl
      obtain ⟨HA1, HA2⟩ := HA.out
      have hpart : fQ (eX n) 0 c s 66 = eX n 0 (c - 1) (s ++ (⟨#[66]⟩ : ByteArray)) := by unfold fQ; simp [HCc.out]
      have hrest : rest = eX n 0 (c - 1) (s ++ (⟨#[66]⟩ : ByteArray)) ++ (([66, 76, 82, 84] : List UInt8).drop (0 + 1)).foldr (fun ch r => fQ (eX n) 0 c s ch ++ r) [] := by rw [← hpart]; exact HA2
      rw [hrest, iN] at HA1
      obtain ⟨⟨b1, x2⟩, hr1, hr2⟩ := Option.bind_eq_some_iff.1 HA1
      have HR1 := a_ hr1
      have HR2 := a_ hr2
      clear HA HA1 HA2 hpart hrest HI HK HT hr1 hr2
      generalize wr.iterAt kI (⟨#[66, 76, 82, 84]⟩ : ByteArray) (0 + 1) = w3 at hnx HI2 HK2 HT2 hcv ⊢
      cases b1 with
      | true =>
       have h2 := HR2.out
       rw [if_pos rfl] at h2
       injection h2 with h2
       injection h2 with h2 h3
       subst h2 h3
       clear HR2
       go_wp2_with (go_at_call 73; ( refine (HIH.out 0 (c - 1) (s ++ (⟨#[66]⟩ : ByteArray)) x1 x2 true F' _ ?z0 ?z1 HI2.out HR1.out).mono ?_); (case z0 => have := HC.out; omega); (case z1 => have := HS.out; rw [ByteArray.size_append]; show s.size + 1 + n ≤ 100; omega); rintro e w4 ⟨rfl, hI4, hk4⟩; have HI4 := a_ hI4; have HK4 := a_ hk4; clear hI4 hk4)
       go_ret
       exact ⟨rfl, HLE.out _ _ _ _ HI4.out (fun k hk => (HFF.out k hk).1), HT2.out.trans (HK4.out.sub (fun k hk => (HFF.out k hk).1))⟩
      | false =>
       have h2 := HR2.out
       rw [if_neg (by simp)] at h2
       have HR3 := a_ h2
       clear HR2 h2
       go_wp2_with (go_at_call 73; ( refine (HIH.out 0 (c - 1) (s ++ (⟨#[66]⟩ : ByteArray)) x1 x2 false F' _ ?z0 ?z1 HI2.out HR1.out).mono ?_); (case z0 => have := HC.out; omega); (case z1 => have := HS.out; rw [ByteArray.size_append]; show s.size + 1 + n ≤ 100; omega); rintro e w4 ⟨rfl, hI4, hk4⟩; have HI4 := a_ hI4; have HK4 := a_ hk4; clear hI4 hk4)
       go_roundg k1
       case measure => omega
       case rel => exact ⟨0 + 1, _, x2, ⟨lZ, by omega⟩, ⟨(HK4.out.2 kI HFk.out).trans HK2.out⟩, HI4, ⟨HT2.out.trans (HK4.out.sub (fun k hk => (HFF.out k hk).1))⟩, ⟨HR3.out, rfl⟩⟩
     ·have hnx : (Instr.next (.pointer (some ⟨kI, 0, none⟩)) true 0).run Tryz.prog wr = .ok (.tuple #[.bool true, .int .i64 (1 : Nat), .int .i32 ((76 : UInt8).toNat : Int)]) (wr.iterAt kI (⟨#[66, 76, 82, 84]⟩ : ByteArray) (1 + 1)) := Lib.run_next_ascii_at wr kI (⟨#[66, 76, 82, 84]⟩ : ByteArray) 1 0 HK.out (by decide) (by decide)
      rw [show ((76 : UInt8).toNat : Int) = 76 from rfl] at hnx
      have HI2 := a_ (HST.out F' x1 wr (⟨#[66, 76, 82, 84]⟩ : ByteArray) 1 (1 + 1) kI HI.out HFk.out HK.out HWS.out)
      have HK2 := a_ (Lib.iterAt_heap wr kI (⟨#[66, 76, 82, 84]⟩ : ByteArray) 1 (1 + 1) HK.out)
      have HT2 := a_ (HT.out.trans (show iQ F wr (wr.iterAt kI (⟨#[66, 76, 82, 84]⟩ : ByteArray) (1 + 1)) from ⟨lY, fun k hk => Lib.iterAt_other _ _ _ _ _ (HFF.out k hk).2⟩))
      have hcv : (convert 21 9 (.int .i32 76)).run Tryz.prog (wr.iterAt kI (⟨#[66, 76, 82, 84]⟩ : ByteArray) (1 + 1)) = .ok (.string (⟨#[76]⟩ : ByteArray)) (wr.iterAt kI (⟨#[66, 76, 82, 84]⟩ : ByteArray) (1 + 1)) := by rfl
      obtain ⟨HA1, HA2⟩ := HA.out
      have hpart : fQ (eX n) 0 c s 76 = [] := by unfold fQ; simp
      have hrest : rest = (([66, 76, 82, 84] : List UInt8).drop (1 + 1)).foldr (fun ch r => fQ (eX n) 0 c s ch ++ r) [] := by rw [HA2]; show fQ (eX n) 0 c s 76 ++ _ = _; rw [hpart]; rfl
      have HRE := a_ hrest
      have HA3 := a_ HA1
      clear HA HA1 HA2 hpart hrest HI HK HT
      generalize wr.iterAt kI (⟨#[66, 76, 82, 84]⟩ : ByteArray) (1 + 1) = w3 at hnx HI2 HK2 HT2 hcv ⊢
      go_wp2
      go_roundg k1
      case measure => omega
      case rel => exact ⟨1 + 1, rest, x1, ⟨lZ, by omega⟩, HK2, HI2, HT2, ⟨HA3.out, HRE.out⟩⟩
     ·have hnx : (Instr.next (.pointer (some ⟨kI, 0, none⟩)) true 0).run Tryz.prog wr = .ok (.tuple #[.bool true, .int .i64 (2 : Nat), .int .i32 ((82 : UInt8).toNat : Int)]) (wr.iterAt kI (⟨#[66, 76, 82, 84]⟩ : ByteArray) (2 + 1)) := Lib.run_next_ascii_at wr kI (⟨#[66, 76, 82, 84]⟩ : ByteArray) 2 0 HK.out (by decide) (by decide)
      rw [show ((82 : UInt8).toNat : Int) = 82 from rfl] at hnx
      have HI2 := a_ (HST.out F' x1 wr (⟨#[66, 76, 82, 84]⟩ : ByteArray) 2 (2 + 1) kI HI.out HFk.out HK.out HWS.out)
      have HK2 := a_ (Lib.iterAt_heap wr kI (⟨#[66, 76, 82, 84]⟩ : ByteArray) 2 (2 + 1) HK.out)
      have HT2 := a_ (HT.out.trans (show iQ F wr (wr.iterAt kI (⟨#[66, 76, 82, 84]⟩ : ByteArray) (2 + 1)) from ⟨lY, fun k hk => Lib.iterAt_other _ _ _ _ _ (HFF.out k hk).2⟩))
      have hcv : (convert 21 9 (.int .i32 82)).run Tryz.prog (wr.iterAt kI (⟨#[66, 76, 82, 84]⟩ : ByteArray) (2 + 1)) = .ok (.string (⟨#[82]⟩ : ByteArray)) (wr.iterAt kI (⟨#[66, 76, 82, 84]⟩ : ByteArray) (2 + 1)) := by rfl
      obtain ⟨HA1, HA2⟩ := HA.out
      have hpart : fQ (eX n) 0 c s 82 = [] := by unfold fQ; simp
      have hrest : rest = (([66, 76, 82, 84] : List UInt8).drop (2 + 1)).foldr (fun ch r => fQ (eX n) 0 c s ch ++ r) [] := by rw [HA2]; show fQ (eX n) 0 c s 82 ++ _ = _; rw [hpart]; rfl
      have HRE := a_ hrest
      have HA3 := a_ HA1
      clear HA HA1 HA2 hpart hrest HI HK HT
      generalize wr.iterAt kI (⟨#[66, 76, 82, 84]⟩ : ByteArray) (2 + 1) = w3 at hnx HI2 HK2 HT2 hcv ⊢
      go_wp2
      go_roundg k1
      case measure => omega
      case rel => exact ⟨2 + 1, rest, x1, ⟨lZ, by omega⟩, HK2, HI2, HT2, ⟨HA3.out, HRE.out⟩⟩
     ·have hnx : (Instr.next (.pointer (some ⟨kI, 0, none⟩)) true 0).run Tryz.prog wr = .ok (.tuple #[.bool true, .int .i64 (3 : Nat), .int .i32 ((84 : UInt8).toNat : Int)]) (wr.iterAt kI (⟨#[66, 76, 82, 84]⟩ : ByteArray) (3 + 1)) := Lib.run_next_ascii_at wr kI (⟨#[66, 76, 82, 84]⟩ : ByteArray) 3 0 HK.out (by decide) (by decide)
      rw [show ((84 : UInt8).toNat : Int) = 84 from rfl] at hnx
      have HI2 := a_ (HST.out F' x1 wr (⟨#[66, 76, 82, 84]⟩ : ByteArray) 3 (3 + 1) kI HI.out HFk.out HK.out HWS.out)
      have HK2 := a_ (Lib.iterAt_heap wr kI (⟨#[66, 76, 82, 84]⟩ : ByteArray) 3 (3 + 1) HK.out)
      have HT2 := a_ (HT.out.trans (show iQ F wr (wr.iterAt kI (⟨#[66, 76, 82, 84]⟩ : ByteArray) (3 + 1)) from ⟨lY, fun k hk => Lib.iterAt_other _ _ _ _ _ (HFF.out k hk).2⟩))
      have hcv : (convert 21 9 (.int .i32 84)).run Tryz.prog (wr.iterAt kI (⟨#[66, 76, 82, 84]⟩ : ByteArray) (3 + 1)) = .ok (.string (⟨#[84]⟩ : ByteArray)) (wr.iterAt kI (⟨#[66, 76, 82, 84]⟩ : ByteArray) (3 + 1)) := by rfl
      obtain ⟨HA1, HA2⟩ := HA.out
      have hpart : fQ (eX n) 0 c s 84 = eX n 0 (c - 1) (s ++ (⟨#[84]⟩ : ByteArray)) := by unfold fQ; simp [HCc.out]
      have hrest : rest = eX n 0 (c - 1) (s ++ (⟨#[84]⟩ : ByteArray)) ++ (([66, 76, 82, 84] : List UInt8).drop (3 + 1)).foldr (fun ch r => fQ (eX n) 0 c s ch ++ r) [] := by rw [← hpart]; exact HA2
      rw [hrest, iN] at HA1
      obtain ⟨⟨b1, x2⟩, hr1, hr2⟩ := Option.bind_eq_some_iff.1 HA1
      have HR1 := a_ hr1
      have HR2 := a_ hr2
      clear HA HA1 HA2 hpart hrest HI HK HT hr1 hr2
      generalize wr.iterAt kI (⟨#[66, 76, 82, 84]⟩ : ByteArray) (3 + 1) = w3 at hnx HI2 HK2 HT2 hcv ⊢
      cases b1 with
      | true =>
       have h2 := HR2.out
       rw [if_pos rfl] at h2
       injection h2 with h2
       injection h2 with h2 h3
       subst h2 h3
       clear HR2
       go_wp2_with (go_at_call 73; ( refine (HIH.out 0 (c - 1) (s ++ (⟨#[84]⟩ : ByteArray)) x1 x2 true F' _ ?z0 ?z1 HI2.out HR1.out).mono ?_); (case z0 => have := HC.out; omega); (case z1 => have := HS.out; rw [ByteArray.size_append]; show s.size + 1 + n ≤ 100; omega); rintro e w4 ⟨rfl, hI4, hk4⟩; have HI4 := a_ hI4; have HK4 := a_ hk4; clear hI4 hk4)
       go_ret
       exact ⟨rfl, HLE.out _ _ _ _ HI4.out (fun k hk => (HFF.out k hk).1), HT2.out.trans (HK4.out.sub (fun k hk => (HFF.out k hk).1))⟩
      | false =>
       have h2 := HR2.out
       rw [if_neg (by simp)] at h2
       have HR3 := a_ h2
       clear HR2 h2
       go_wp2_with (go_at_call 73; ( refine (HIH.out 0 (c - 1) (s ++ (⟨#[84]⟩ : ByteArray)) x1 x2 false F' _ ?z0 ?z1 HI2.out HR1.out).mono ?_); (case z0 => have := HC.out; omega); (case z1 => have := HS.out; rw [ByteArray.size_append]; show s.size + 1 + n ≤ 100; omega); rintro e w4 ⟨rfl, hI4, hk4⟩; have HI4 := a_ hI4; have HK4 := a_ hk4; clear hI4 hk4)
       go_roundg k1
       case measure => omega
       case rel => exact ⟨3 + 1, _, x2, ⟨lZ, by omega⟩, ⟨(HK4.out.2 kI HFk.out).trans HK2.out⟩, HI4, ⟨HT2.out.trans (HK4.out.sub (fun k hk => (HFF.out k hk).1))⟩, ⟨HR3.out, rfl⟩⟩
     ·have hnx : (Instr.next (.pointer (some ⟨kI, 0, none⟩)) true 0).run Tryz.prog wr = .ok (.tuple #[.bool false]) wr := Lib.run_next_end_at wr kI (⟨#[66, 76, 82, 84]⟩ : ByteArray) 4 0 HK.out (by decide)
      obtain ⟨HA1, HA2⟩ := HA.out
      have hnil : rest = [] := HA2
      rw [hnil, kQ] at HA1
      injection HA1 with HA1
      injection HA1 with h2 h3
      subst h2 h3
      clear HA HA2 hnil
      go_wp2
      go_ret
      exact ⟨rfl, HLE.out _ _ _ _ HI.out (fun k hk => (HFF.out k hk).1), HT.out⟩
  ·rcases c with _ | c
   ·skip
    have na : (((a + 1 : Nat) : Int) == 0) = false := by rw [beq_eq_false_iff_ne]; omega
    have na2 : (((a : Nat) : Int) + 1 == 0) = false := by rw [beq_eq_false_iff_ne]; omega
    have ga : decide (((a + 1 : Nat) : Int) > 0) = true := decide_eq_true (by omega)
    have ga2 : decide (((a : Nat) : Int) + 1 > 0) = true := decide_eq_true (by omega)
    have p1 : wrap64 (((a + 1 : Nat) : Int) - 1) = (a : Int) := by have := HC.out; have := HS.out; unfold wrap64; omega
    have p2 : IntKind.i64.wrap (((a + 1 : Nat) : Int) - 1) = (a : Int) := (eU _).trans p1
    have p3 : wrap64 ((a : Int) + 1 - 1) = (a : Int) := by have := HC.out; have := HS.out; unfold wrap64; omega
    have p4 : wrap64 (a : Int) = (a : Int) := by have := HC.out; have := HS.out; unfold wrap64; omega
    go_enter Tryz.func73, Tryz.ntmps73
    go_wp2
    change Code.wp _ _ _ _ (W.alloc (.stringIter (⟨#[66, 76, 82, 84]⟩ : ByteArray) 0))
    have I1 := a_ i1
    have I2 := a_ i2
    have I3 := a_ i3
    clear i1 i2 i3
    generalize W.alloc (.stringIter (⟨#[66, 76, 82, 84]⟩ : ByteArray) 0) = w0 at I1 I2 I3 ⊢
    obtain ⟨kI, hkI⟩ : ∃ kI : Nat, W.heap.size = kI := ⟨_, rfl⟩
    obtain ⟨F', hF'⟩ : ∃ F' : Nat → Prop, (fun k => F k ∨ k = kI) = F' := ⟨_, rfl⟩
    have HFk := a_ (show F' kI by rw [← hF']; exact .inr rfl)
    have HFF := a_ (show ∀ k, F k → F' k ∧ k ≠ kI by rw [← hF']; exact fun k hk => ⟨.inl hk, fun e => by have := HFS.out k hk; omega⟩)
    rw [hkI] at I1 I2 HWS ⊢
    rw [hF'] at I1
    clear hkI hF' HFS
    go_loopg [] 5 (fun kq W' => ∃ (p : Nat) (rest : List ByteArray) (x1 : σ), ah (p + kq = 5 ∧ p ≤ 4) ∧ ah (W'.heap[kI]? = some (.stringIter (⟨#[66, 76, 82, 84]⟩ : ByteArray) p)) ∧ ah (Inv F' x1 W') ∧ ah (iQ F W W') ∧ ah (kQ stp rest x1 = some (b, y) ∧ rest = (([66, 76, 82, 84] : List UInt8).drop p).foldr (fun ch r => fQ (eX n) (a + 1) 0 s ch ++ r) []))
    case atStart => exact ⟨0, _, x, ⟨by omega, by omega⟩, I2, I1, I3, ⟨by have h := HR.out; rw [eX] at h; exact h, rfl⟩⟩
    case round =>
     clear I1 I2 I3 HR
     obtain ⟨p, rest, x1, HP, HK, HI, HT, HA⟩ := hrel
     have hp := HP.out
     cases gk with
     | zero => exact absurd HP.out (fun h => by omega)
     | succ k1 =>
      have hpc : p = 0 ∨ p = 1 ∨ p = 2 ∨ p = 3 ∨ p = 4 := by omega
      clear hp
      rcases hpc with rfl | rfl | rfl | rfl | rfl
      ·have hnx : (Instr.next (.pointer (some ⟨kI, 0, none⟩)) true 0).run Tryz.prog wr = .ok (.tuple #[.bool true, .int .i64 (0 : Nat), .int .i32 ((66 : UInt8).toNat : Int)]) (wr.iterAt kI (⟨#[66, 76, 82, 84]⟩ : ByteArray) (0 + 1)) := Lib.run_next_ascii_at wr kI (⟨#[66, 76, 82, 84]⟩ : ByteArray) 0 0 HK.out (by decide) (by decide)
       rw [show ((66 : UInt8).toNat : Int) = 66 from rfl] at hnx
       have HI2 := a_ (HST.out F' x1 wr (⟨#[66, 76, 82, 84]⟩ : ByteArray) 0 (0 + 1) kI HI.out HFk.out HK.out HWS.out)
       have HK2 := a_ (Lib.iterAt_heap wr kI (⟨#[66, 76, 82, 84]⟩ : ByteArray) 0 (0 + 1) HK.out)
       have HT2 := a_ (HT.out.trans (show iQ F wr (wr.iterAt kI (⟨#[66, 76, 82, 84]⟩ : ByteArray) (0 + 1)) from ⟨lY, fun k hk => Lib.iterAt_other _ _ _ _ _ (HFF.out k hk).2⟩))
       have hcv : (convert 21 9 (.int .i32 66)).run Tryz.prog (wr.iterAt kI (⟨#[66, 76, 82, 84]⟩ : ByteArray) (0 + 1)) = .ok (.string (⟨#[66]⟩ : ByteArray)) (wr.iterAt kI (⟨#[66, 76, 82, 84]⟩ : ByteArray) (0 + 1)) := by rfl
       obtain ⟨HA1, HA2⟩ := HA.out
       have hpart : fQ (eX n) (a + 1) 0 s 66 = [] := by unfold fQ; simp
       have hrest : rest = (([66, 76, 82, 84] : List UInt8).drop (0 + 1)).foldr (fun ch r => fQ (eX n) (a + 1) 0 s ch ++ r) [] := by rw [HA2]; show fQ (eX n) (a + 1) 0 s 66 ++ _ = _; rw [hpart]; rfl
       have HRE := a_ hrest
       have HA3 := a_ HA1
       clear HA HA1 HA2 hpart hrest HI HK HT
       generalize wr.iterAt kI (⟨#[66, 76, 82, 84]⟩ : ByteArray) (0 + 1) = w3 at hnx HI2 HK2 HT2 hcv ⊢
       go_wp2
       go_roundg k1
       case measure => omega
       case rel => exact ⟨0 + 1, rest, x1, ⟨lZ, by omega⟩, HK2, HI2, HT2, ⟨HA3.out, HRE.out⟩⟩
      ·have hnx : (Instr.next (.pointer (some ⟨kI, 0, none⟩)) true 0).run Tryz.prog wr = .ok (.tuple #[.bool true, .int .i64 (1 : Nat), .int .i32 ((76 : UInt8).toNat : Int)]) (wr.iterAt kI (⟨#[66, 76, 82, 84]⟩ : ByteArray) (1 + 1)) := Lib.run_next_ascii_at wr kI (⟨#[66, 76, 82, 84]⟩ : ByteArray) 1 0 HK.out (by decide) (by decide)
       rw [show ((76 : UInt8).toNat : Int) = 76 from rfl] at hnx
       have HI2 := a_ (HST.out F' x1 wr (⟨#[66, 76, 82, 84]⟩ : ByteArray) 1 (1 + 1) kI HI.out HFk.out HK.out HWS.out)
       have HK2 := a_ (Lib.iterAt_heap wr kI (⟨#[66, 76, 82, 84]⟩ : ByteArray) 1 (1 + 1) HK.out)
       have HT2 := a_ (HT.out.trans (show iQ F wr (wr.iterAt kI (⟨#[66, 76, 82, 84]⟩ : ByteArray) (1 + 1)) from ⟨lY, fun k hk => Lib.iterAt_other _ _ _ _ _ (HFF.out k hk).2⟩))
       have hcv : (convert 21 9 (.int .i32 76)).run Tryz.prog (wr.iterAt kI (⟨#[66, 76, 82, 84]⟩ : ByteArray) (1 + 1)) = .ok (.string (⟨#[76]⟩ : ByteArray)) (wr.iterAt kI (⟨#[66, 76, 82, 84]⟩ : ByteArray) (1 + 1)) := by rfl
       obtain ⟨HA1, HA2⟩ := HA.out
       have hpart : fQ (eX n) (a + 1) 0 s 76 = eX n a 0 (s ++ (⟨#[76]⟩ : ByteArray)) := by unfold fQ; simp
       have hrest : rest = eX n a 0 (s ++ (⟨#[76]⟩ : ByteArray)) ++ (([66, 76, 82, 84] : List UInt8).drop (1 + 1)).foldr (fun ch r => fQ (eX n) (a + 1) 0 s ch ++ r) [] := by rw [← hpart]; exact HA2
       rw [hrest, iN] at HA1
       obtain ⟨⟨b1, x2⟩, hr1, hr2⟩ := Option.bind_eq_some_iff.1 HA1
       have HR1 := a_ hr1
       have HR2 := a_ hr2
       clear HA HA1 HA2 hpart hrest HI HK HT hr1 hr2
       generalize wr.iterAt kI (⟨#[66, 76, 82, 84]⟩ : ByteArray) (1 + 1) = w3 at hnx HI2 HK2 HT2 hcv ⊢
       cases b1 with
       | true =>
        have h2 := HR2.out
        rw [if_pos rfl] at h2
        injection h2 with h2
        injection h2 with h2 h3
        subst h2 h3
        clear HR2
        go_wp2_with (go_at_call 73; ( refine (HIH.out a 0 (s ++ (⟨#[76]⟩ : ByteArray)) x1 x2 true F' _ ?z0 ?z1 HI2.out HR1.out).mono ?_); (case z0 => have := HC.out; omega); (case z1 => have := HS.out; rw [ByteArray.size_append]; show s.size + 1 + n ≤ 100; omega); rintro e w4 ⟨rfl, hI4, hk4⟩; have HI4 := a_ hI4; have HK4 := a_ hk4; clear hI4 hk4)
        go_ret
        exact ⟨rfl, HLE.out _ _ _ _ HI4.out (fun k hk => (HFF.out k hk).1), HT2.out.trans (HK4.out.sub (fun k hk => (HFF.out k hk).1))⟩
       | false =>
        have h2 := HR2.out
        rw [if_neg (by simp)] at h2
        have HR3 := a_ h2
        clear HR2 h2
        go_wp2_with (go_at_call 73; ( refine (HIH.out a 0 (s ++ (⟨#[76]⟩ : ByteArray)) x1 x2 false F' _ ?z0 ?z1 HI2.out HR1.out).mono ?_); (case z0 => have := HC.out; omega); (case z1 => have := HS.out; rw [ByteArray.size_append]; show s.size + 1 + n ≤ 100; omega); rintro e w4 ⟨rfl, hI4, hk4⟩; have HI4 := a_ hI4; have HK4 := a_ hk4; clear hI4 hk4)
        go_roundg k1
        case measure => omega
        case rel => exact ⟨1 + 1, _, x2, ⟨lZ, by omega⟩, ⟨(HK4.out.2 kI HFk.out).trans HK2.out⟩, HI4, ⟨HT2.out.trans (HK4.out.sub (fun k hk => (HFF.out k hk).1))⟩, ⟨HR3.out, rfl⟩⟩
      ·have hnx : (Instr.next (.pointer (some ⟨kI, 0, none⟩)) true 0).run Tryz.prog wr = .ok (.tuple #[.bool true, .int .i64 (2 : Nat), .int .i32 ((82 : UInt8).toNat : Int)]) (wr.iterAt kI (⟨#[66, 76, 82, 84]⟩ : ByteArray) (2 + 1)) := Lib.run_next_ascii_at wr kI (⟨#[66, 76, 82, 84]⟩ : ByteArray) 2 0 HK.out (by decide) (by decide)
       rw [show ((82 : UInt8).toNat : Int) = 82 from rfl] at hnx
       have HI2 := a_ (HST.out F' x1 wr (⟨#[66, 76, 82, 84]⟩ : ByteArray) 2 (2 + 1) kI HI.out HFk.out HK.out HWS.out)
       have HK2 := a_ (Lib.iterAt_heap wr kI (⟨#[66, 76, 82, 84]⟩ : ByteArray) 2 (2 + 1) HK.out)
       have HT2 := a_ (HT.out.trans (show iQ F wr (wr.iterAt kI (⟨#[66, 76, 82, 84]⟩ : ByteArray) (2 + 1)) from ⟨lY, fun k hk => Lib.iterAt_other _ _ _ _ _ (HFF.out k hk).2⟩))
       have hcv : (convert 21 9 (.int .i32 82)).run Tryz.prog (wr.iterAt kI (⟨#[66, 76, 82, 84]⟩ : ByteArray) (2 + 1)) = .ok (.string (⟨#[82]⟩ : ByteArray)) (wr.iterAt kI (⟨#[66, 76, 82, 84]⟩ : ByteArray) (2 + 1)) := by rfl
       obtain ⟨HA1, HA2⟩ := HA.out
       have hpart : fQ (eX n) (a + 1) 0 s 82 = eX n a 0 (s ++ (⟨#[82]⟩ : ByteArray)) := by unfold fQ; simp
       have hrest : rest = eX n a 0 (s ++ (⟨#[82]⟩ : ByteArray)) ++ (([66, 76, 82, 84] : List UInt8).drop (2 + 1)).foldr (fun ch r => fQ (eX n) (a + 1) 0 s ch ++ r) [] := by rw [← hpart]; exact HA2
       rw [hrest, iN] at HA1
       obtain ⟨⟨b1, x2⟩, hr1, hr2⟩ := Option.bind_eq_some_iff.1 HA1
       have HR1 := a_ hr1
       have HR2 := a_ hr2
       clear HA HA1 HA2 hpart hrest HI HK HT hr1 hr2
       generalize wr.iterAt kI (⟨#[66, 76, 82, 84]⟩ : ByteArray) (2 + 1) = w3 at hnx HI2 HK2 HT2 hcv ⊢
       cases b1 with
       | true =>
        have h2 := HR2.out
        rw [if_pos rfl] at h2
        injection h2 with h2
        injection h2 with h2 h3
        subst h2 h3
        clear HR2
        go_wp2_with (go_at_call 73; ( refine (HIH.out a 0 (s ++ (⟨#[82]⟩ : ByteArray)) x1 x2 true F' _ ?z0 ?z1 HI2.out HR1.out).mono ?_); (case z0 => have := HC.out; omega); (case z1 => have := HS.out; rw [ByteArray.size_append]; show s.size + 1 + n ≤ 100; omega); rintro e w4 ⟨rfl, hI4, hk4⟩; have HI4 := a_ hI4; have HK4 := a_ hk4; clear hI4 hk4)
        go_ret
        exact ⟨rfl, HLE.out _ _ _ _ HI4.out (fun k hk => (HFF.out k hk).1), HT2.out.trans (HK4.out.sub (fun k hk => (HFF.out k hk).1))⟩
       | false =>
        have h2 := HR2.out
        rw [if_neg (by simp)] at h2
        have HR3 := a_ h2
        clear HR2 h2
        go_wp2_with (go_at_call 73; ( refine (HIH.out a 0 (s ++ (⟨#[82]⟩ : ByteArray)) x1 x2 false F' _ ?z0 ?z1 HI2.out HR1.out).mono ?_); (case z0 => have := HC.out; omega); (case z1 => have := HS.out; rw [ByteArray.size_append]; show s.size + 1 + n ≤ 100; omega); rintro e w4 ⟨rfl, hI4, hk4⟩; have HI4 := a_ hI4; have HK4 := a_ hk4; clear hI4 hk4)
        go_roundg k1
        case measure => omega
        case rel => exact ⟨2 + 1, _, x2, ⟨lZ, by omega⟩, ⟨(HK4.out.2 kI HFk.out).trans HK2.out⟩, HI4, ⟨HT2.out.trans (HK4.out.sub (fun k hk => (HFF.out k hk).1))⟩, ⟨HR3.out, rfl⟩⟩
      ·have hnx : (Instr.next (.pointer (some ⟨kI, 0, none⟩)) true 0).run Tryz.prog wr = .ok (.tuple #[.bool true, .int .i64 (3 : Nat), .int .i32 ((84 : UInt8).toNat : Int)]) (wr.iterAt kI (⟨#[66, 76, 82, 84]⟩ : ByteArray) (3 + 1)) := Lib.run_next_ascii_at wr kI (⟨#[66, 76, 82, 84]⟩ : ByteArray) 3 0 HK.out (by decide) (by decide)
       rw [show ((84 : UInt8).toNat : Int) = 84 from rfl] at hnx
       have HI2 := a_ (HST.out F' x1 wr (⟨#[66, 76, 82, 84]⟩ : ByteArray) 3 (3 + 1) kI HI.out HFk.out HK.out HWS.out)
       have HK2 := a_ (Lib.iterAt_heap wr kI (⟨#[66, 76, 82, 84]⟩ : ByteArray) 3 (3 + 1) HK.out)
       have HT2 := a_ (HT.out.trans (show iQ F wr (wr.iterAt kI (⟨#[66, 76, 82, 84]⟩ : ByteArray) (3 + 1)) from ⟨lY, fun k hk => Lib.iterAt_other _ _ _ _ _ (HFF.out k hk).2⟩))
       have hcv : (convert 21 9 (.int .i32 84)).run Tryz.prog (wr.iterAt kI (⟨#[66, 76, 82, 84]⟩ : ByteArray) (3 + 1)) = .ok (.string (⟨#[84]⟩ : ByteArray)) (wr.iterAt kI (⟨#[66, 76, 82, 84]⟩ : ByteArray) (3 + 1)) := by rfl
       obtain ⟨HA1, HA2⟩ := HA.out
       have hpart : fQ (eX n) (a + 1) 0 s 84 = [] := by unfold fQ; simp
       have hrest : rest = (([66, 76, 82, 84] : List UInt8).drop (3 + 1)).foldr (fun ch r => fQ (eX n) (a + 1) 0 s ch ++ r) [] := by rw [HA2]; show fQ (eX n) (a + 1) 0 s 84 ++ _ = _; rw [hpart]; rfl
       have HRE := a_ hrest
       have HA3 := a_ HA1
       clear HA HA1 HA2 hpart hrest HI HK HT
       generalize wr.iterAt kI (⟨#[66, 76, 82, 84]⟩ : ByteArray) (3 + 1) = w3 at hnx HI2 HK2 HT2 hcv ⊢
       go_wp2
       go_roundg k1
       case measure => omega
       case rel => exact ⟨3 + 1, rest, x1, ⟨lZ, by omega⟩, HK2, HI2, HT2, ⟨HA3.out, HRE.out⟩⟩
      ·have hnx : (Instr.next (.pointer (some ⟨kI, 0, none⟩)) true 0).run Tryz.prog wr = .ok (.tuple #[.bool false]) wr := Lib.run_next_end_at wr kI (⟨#[66, 76, 82, 84]⟩ : ByteArray) 4 0 HK.out (by decide)
       obtain ⟨HA1, HA2⟩ := HA.out
       have hnil : rest = [] := HA2
       rw [hnil, kQ] at HA1
       injection HA1 with HA1
       injection HA1 with h2 h3
       subst h2 h3
       clear HA HA2 hnil
       go_wp2
       go_ret
       exact ⟨rfl, HLE.out _ _ _ _ HI.out (fun k hk => (HFF.out k hk).1), HT.out⟩
   ·skip
    have na : (((a + 1 : Nat) : Int) == 0) = false := by rw [beq_eq_false_iff_ne]; omega
    have na2 : (((a : Nat) : Int) + 1 == 0) = false := by rw [beq_eq_false_iff_ne]; omega
    have ga : decide (((a + 1 : Nat) : Int) > 0) = true := decide_eq_true (by omega)
    have ga2 : decide (((a : Nat) : Int) + 1 > 0) = true := decide_eq_true (by omega)
    have p1 : wrap64 (((a + 1 : Nat) : Int) - 1) = (a : Int) := by have := HC.out; have := HS.out; unfold wrap64; omega
    have p2 : IntKind.i64.wrap (((a + 1 : Nat) : Int) - 1) = (a : Int) := (eU _).trans p1
    have p3 : wrap64 ((a : Int) + 1 - 1) = (a : Int) := by have := HC.out; have := HS.out; unfold wrap64; omega
    have p4 : wrap64 (a : Int) = (a : Int) := by have := HC.out; have := HS.out; unfold wrap64; omega
    have gc : decide (((c + 1 : Nat) : Int) > 0) = true := decide_eq_true (by omega)
    have gc2 : decide (((c : Nat) : Int) + 1 > 0) = true := decide_eq_true (by omega)
    have m1 : wrap64 (((c + 1 : Nat) : Int) - 1) = (c : Int) := by have := HC.out; have := HS.out; unfold wrap64; omega
    have m2 : IntKind.i64.wrap (((c + 1 : Nat) : Int) - 1) = (c : Int) := (eU _).trans m1
    have m3 : wrap64 ((c : Int) + 1 - 1) = (c : Int) := by have := HC.out; have := HS.out; unfold wrap64; omega
    have m4 : wrap64 (c : Int) = (c : Int) := by have := HC.out; have := HS.out; unfold wrap64; omega
    go_enter Tryz.func73, Tryz.ntmps73
    go_wp2
    change Code.wp _ _ _ _ (W.alloc (.stringIter (⟨#[66, 76, 82, 84]⟩ : ByteArray) 0))
    have I1 := a_ i1
    have I2 := a_ i2
    have I3 := a_ i3
    clear i1 i2 i3
    generalize W.alloc (.stringIter (⟨#[66, 76, 82, 84]⟩ : ByteArray) 0) = w0 at I1 I2 I3 ⊢
    obtain ⟨kI, hkI⟩ : ∃ kI : Nat, W.heap.size = kI := ⟨_, rfl⟩
    obtain ⟨F', hF'⟩ : ∃ F' : Nat → Prop, (fun k => F k ∨ k = kI) = F' := ⟨_, rfl⟩
    have HFk := a_ (show F' kI by rw [← hF']; exact .inr rfl)
    have HFF := a_ (show ∀ k, F k → F' k ∧ k ≠ kI by rw [← hF']; exact fun k hk => ⟨.inl hk, fun e => by have := HFS.out k hk; omega⟩)
    rw [hkI] at I1 I2 HWS ⊢
    rw [hF'] at I1
    clear hkI hF' HFS
    go_loopg [] 5 (fun kq W' => ∃ (p : Nat) (rest : List ByteArray) (x1 : σ), ah (p + kq = 5 ∧ p ≤ 4) ∧ ah (W'.heap[kI]? = some (.stringIter (⟨#[66, 76, 82, 84]⟩ : ByteArray) p)) ∧ ah (Inv F' x1 W') ∧ ah (iQ F W W') ∧ ah (kQ stp rest x1 = some (b, y) ∧ rest = (([66, 76, 82, 84] : List UInt8).drop p).foldr (fun ch r => fQ (eX n) (a + 1) (c + 1) s ch ++ r) []))
    case atStart => exact ⟨0, _, x, ⟨by omega, by omega⟩, I2, I1, I3, ⟨by have h := HR.out; rw [eX] at h; exact h, rfl⟩⟩
    case round =>
     clear I1 I2 I3 HR
     obtain ⟨p, rest, x1, HP, HK, HI, HT, HA⟩ := hrel
     have hp := HP.out
     cases gk with
     | zero => exact absurd HP.out (fun h => by omega)
     | succ k1 =>
      have hpc : p = 0 ∨ p = 1 ∨ p = 2 ∨ p = 3 ∨ p = 4 := by omega
      clear hp
      rcases hpc with rfl | rfl | rfl | rfl | rfl
      ·have hnx : (Instr.next (.pointer (some ⟨kI, 0, none⟩)) true 0).run Tryz.prog wr = .ok (.tuple #[.bool true, .int .i64 (0 : Nat), .int .i32 ((66 : UInt8).toNat : Int)]) (wr.iterAt kI (⟨#[66, 76, 82, 84]⟩ : ByteArray) (0 + 1)) := Lib.run_next_ascii_at wr kI (⟨#[66, 76, 82, 84]⟩ : ByteArray) 0 0 HK.out (by decide) (by decide)
       rw [show ((66 : UInt8).toNat : Int) = 66 from rfl] at hnx
       have HI2 := a_ (HST.out F' x1 wr (⟨#[66, 76, 82, 84]⟩ : ByteArray) 0 (0 + 1) kI HI.out HFk.out HK.out HWS.out)
       have HK2 := a_ (Lib.iterAt_heap wr kI (⟨#[66, 76, 82, 84]⟩ : ByteArray) 0 (0 + 1) HK.out)
       have HT2 := a_ (HT.out.trans (show iQ F wr (wr.iterAt kI (⟨#[66, 76, 82, 84]⟩ : ByteArray) (0 + 1)) from ⟨lY, fun k hk => Lib.iterAt_other _ _ _ _ _ (HFF.out k hk).2⟩))
       have hcv : (convert 21 9 (.int .i32 66)).run Tryz.prog (wr.iterAt kI (⟨#[66, 76, 82, 84]⟩ : ByteArray) (0 + 1)) = .ok (.string (⟨#[66]⟩ : ByteArray)) (wr.iterAt kI (⟨#[66, 76, 82, 84]⟩ : ByteArray) (0 + 1)) := by rfl
       obtain ⟨HA1, HA2⟩ := HA.out
       have hpart : fQ (eX n) (a + 1) (c + 1) s 66 = eX n (a + 1) c (s ++ (⟨#[66]⟩ : ByteArray)) := by unfold fQ; simp
       have hrest : rest = eX n (a + 1) c (s ++ (⟨#[66]⟩ : ByteArray)) ++ (([66, 76, 82, 84] : List UInt8).drop (0 + 1)).foldr (fun ch r => fQ (eX n) (a + 1) (c + 1) s ch ++ r) [] := by rw [← hpart]; exact HA2
       rw [hrest, iN] at HA1
       obtain ⟨⟨b1, x2⟩, hr1, hr2⟩ := Option.bind_eq_some_iff.1 HA1
       have HR1 := a_ hr1
       have HR2 := a_ hr2
       clear HA HA1 HA2 hpart hrest HI HK HT hr1 hr2
       generalize wr.iterAt kI (⟨#[66, 76, 82, 84]⟩ : ByteArray) (0 + 1) = w3 at hnx HI2 HK2 HT2 hcv ⊢
       cases b1 with
       | true =>
        have h2 := HR2.out
        rw [if_pos rfl] at h2
        injection h2 with h2
        injection h2 with h2 h3
        subst h2 h3
        clear HR2
        go_wp2_with (go_at_call 73; ( refine (HIH.out (a + 1) c (s ++ (⟨#[66]⟩ : ByteArray)) x1 x2 true F' _ ?z0 ?z1 HI2.out HR1.out).mono ?_); (case z0 => have := HC.out; omega); (case z1 => have := HS.out; rw [ByteArray.size_append]; show s.size + 1 + n ≤ 100; omega); rintro e w4 ⟨rfl, hI4, hk4⟩; have HI4 := a_ hI4; have HK4 := a_ hk4; clear hI4 hk4)
        go_ret
        exact ⟨rfl, HLE.out _ _ _ _ HI4.out (fun k hk => (HFF.out k hk).1), HT2.out.trans (HK4.out.sub (fun k hk => (HFF.out k hk).1))⟩
       | false =>
        have h2 := HR2.out
        rw [if_neg (by simp)] at h2
        have HR3 := a_ h2
        clear HR2 h2
        go_wp2_with (go_at_call 73; ( refine (HIH.out (a + 1) c (s ++ (⟨#[66]⟩ : ByteArray)) x1 x2 false F' _ ?z0 ?z1 HI2.out HR1.out).mono ?_); (case z0 => have := HC.out; omega); (case z1 => have := HS.out; rw [ByteArray.size_append]; show s.size + 1 + n ≤ 100; omega); rintro e w4 ⟨rfl, hI4, hk4⟩; have HI4 := a_ hI4; have HK4 := a_ hk4; clear hI4 hk4)
        go_roundg k1
        case measure => omega
        case rel => exact ⟨0 + 1, _, x2, ⟨lZ, by omega⟩, ⟨(HK4.out.2 kI HFk.out).trans HK2.out⟩, HI4, ⟨HT2.out.trans (HK4.out.sub (fun k hk => (HFF.out k hk).1))⟩, ⟨HR3.out, rfl⟩⟩
      ·have hnx : (Instr.next (.pointer (some ⟨kI, 0, none⟩)) true 0).run Tryz.prog wr = .ok (.tuple #[.bool true, .int .i64 (1 : Nat), .int .i32 ((76 : UInt8).toNat : Int)]) (wr.iterAt kI (⟨#[66, 76, 82, 84]⟩ : ByteArray) (1 + 1)) := Lib.run_next_ascii_at wr kI (⟨#[66, 76, 82, 84]⟩ : ByteArray) 1 0 HK.out (by decide) (by decide)
       rw [show ((76 : UInt8).toNat : Int) = 76 from rfl] at hnx
       have HI2 := a_ (HST.out F' x1 wr (⟨#[66, 76, 82, 84]⟩ : ByteArray) 1 (1 + 1) kI HI.out HFk.out HK.out HWS.out)
       have HK2 := a_ (Lib.iterAt_heap wr kI (⟨#[66, 76, 82, 84]⟩ : ByteArray) 1 (1 + 1) HK.out)
       have HT2 := a_ (HT.out.trans (show iQ F wr (wr.iterAt kI (⟨#[66, 76, 82, 84]⟩ : ByteArray) (1 + 1)) from ⟨lY, fun k hk => Lib.iterAt_other _ _ _ _ _ (HFF.out k hk).2⟩))
       have hcv : (convert 21 9 (.int .i32 76)).run Tryz.prog (wr.iterAt kI (⟨#[66, 76, 82, 84]⟩ : ByteArray) (1 + 1)) = .ok (.string (⟨#[76]⟩ : ByteArray)) (wr.iterAt kI (⟨#[66, 76, 82, 84]⟩ : ByteArray) (1 + 1)) := by rfl
       obtain ⟨HA1, HA2⟩ := HA.out
       have hpart : fQ (eX n) (a + 1) (c + 1) s 76 = eX n a (c + 1) (s ++ (⟨#[76]⟩ : ByteArray)) := by unfold fQ; simp
       have hrest : rest = eX n a (c + 1) (s ++ (⟨#[76]⟩ : ByteArray)) ++ (([66, 76, 82, 84] : List UInt8).drop (1 + 1)).foldr (fun ch r => fQ (eX n) (a + 1) (c + 1) s ch ++ r) [] := by rw [← hpart]; exact HA2
       rw [hrest, iN] at HA1
       obtain ⟨⟨b1, x2⟩, hr1, hr2⟩ := Option.bind_eq_some_iff.1 HA1
       have HR1 := a_ hr1
       have HR2 := a_ hr2
       clear HA HA1 HA2 hpart hrest HI HK HT hr1 hr2
       generalize wr.iterAt kI (⟨#[66, 76, 82, 84]⟩ : ByteArray) (1 + 1) = w3 at hnx HI2 HK2 HT2 hcv ⊢
       cases b1 with
       | true =>
        have h2 := HR2.out
        rw [if_pos rfl] at h2
        injection h2 with h2
        injection h2 with h2 h3
        subst h2 h3
        clear HR2
        go_wp2_with (go_at_call 73; ( refine (HIH.out a (c + 1) (s ++ (⟨#[76]⟩ : ByteArray)) x1 x2 true F' _ ?z0 ?z1 HI2.out HR1.out).mono ?_); (case z0 => have := HC.out; omega); (case z1 => have := HS.out; rw [ByteArray.size_append]; show s.size + 1 + n ≤ 100; omega); rintro e w4 ⟨rfl, hI4, hk4⟩; have HI4 := a_ hI4; have HK4 := a_ hk4; clear hI4 hk4)
        go_ret
        exact ⟨rfl, HLE.out _ _ _ _ HI4.out (fun k hk => (HFF.out k hk).1), HT2.out.trans (HK4.out.sub (fun k hk => (HFF.out k hk).1))⟩
       | false =>
        have h2 := HR2.out
        rw [if_neg (by simp)] at h2
        have HR3 := a_ h2
        clear HR2 h2
        go_wp2_with (go_at_call 73; ( refine (HIH.out a (c + 1) (s ++ (⟨#[76]⟩ : ByteArray)) x1 x2 false F' _ ?z0 ?z1 HI2.out HR1.out).mono ?_); (case z0 => have := HC.out; omega); (case z1 => have := HS.out; rw [ByteArray.size_append]; show s.size + 1 + n ≤ 100; omega); rintro e w4 ⟨rfl, hI4, hk4⟩; have HI4 := a_ hI4; have HK4 := a_ hk4; clear hI4 hk4)
        go_roundg k1
        case measure => omega
        case rel => exact ⟨1 + 1, _, x2, ⟨lZ, by omega⟩, ⟨(HK4.out.2 kI HFk.out).trans HK2.out⟩, HI4, ⟨HT2.out.trans (HK4.out.sub (fun k hk => (HFF.out k hk).1))⟩, ⟨HR3.out, rfl⟩⟩
      ·have hnx : (Instr.next (.pointer (some ⟨kI, 0, none⟩)) true 0).run Tryz.prog wr = .ok (.tuple #[.bool true, .int .i64 (2 : Nat), .int .i32 ((82 : UInt8).toNat : Int)]) (wr.iterAt kI (⟨#[66, 76, 82, 84]⟩ : ByteArray) (2 + 1)) := Lib.run_next_ascii_at wr kI (⟨#[66, 76, 82, 84]⟩ : ByteArray) 2 0 HK.out (by decide) (by decide)
       rw [show ((82 : UInt8).toNat : Int) = 82 from rfl] at hnx
       have HI2 := a_ (HST.out F' x1 wr (⟨#[66, 76, 82, 84]⟩ : ByteArray) 2 (2 + 1) kI HI.out HFk.out HK.out HWS.out)
       have HK2 := a_ (Lib.iterAt_heap wr kI (⟨#[66, 76, 82, 84]⟩ : ByteArray) 2 (2 + 1) HK.out)
       have HT2 := a_ (HT.out.trans (show iQ F wr (wr.iterAt kI (⟨#[66, 76, 82, 84]⟩ : ByteArray) (2 + 1)) from ⟨lY, fun k hk => Lib.iterAt_other _ _ _ _ _ (HFF.out k hk).2⟩))
       have hcv : (convert 21 9 (.int .i32 82)).run Tryz.prog (wr.iterAt kI (⟨#[66, 76, 82, 84]⟩ : ByteArray) (2 + 1)) = .ok (.string (⟨#[82]⟩ : ByteArray)) (wr.iterAt kI (⟨#[66, 76, 82, 84]⟩ : ByteArray) (2 + 1)) := by rfl
       obtain ⟨HA1, HA2⟩ := HA.out
       have hpart : fQ (eX n) (a + 1) (c + 1) s 82 = eX n a (c + 1) (s ++ (⟨#[82]⟩ : ByteArray)) := by unfold fQ; simp
       have hrest : rest = eX n a (c + 1) (s ++ (⟨#[82]⟩ : ByteArray)) ++ (([66, 76, 82, 84] : List UInt8).drop (2 + 1)).foldr (fun ch r => fQ (eX n) (a + 1) (c + 1) s ch ++ r) [] := by rw [← hpart]; exact HA2
       rw [hrest, iN] at HA1
       obtain ⟨⟨b1, x2⟩, hr1, hr2⟩ := Option.bind_eq_some_iff.1 HA1
       have HR1 := a_ hr1
       have HR2 := a_ hr2
       clear HA HA1 HA2 hpart hrest HI HK HT hr1 hr2
       generalize wr.iterAt kI (⟨#[66, 76, 82, 84]⟩ : ByteArray) (2 + 1) = w3 at hnx HI2 HK2 HT2 hcv ⊢
       cases b1 with
       | true =>
        have h2 := HR2.out
        rw [if_pos rfl] at h2
        injection h2 with h2
        injection h2 with h2 h3
        subst h2 h3
        clear HR2
        go_wp2_with (go_at_call 73; ( refine (HIH.out a (c + 1) (s ++ (⟨#[82]⟩ : ByteArray)) x1 x2 true F' _ ?z0 ?z1 HI2.out HR1.out).mono ?_); (case z0 => have := HC.out; omega); (case z1 => have := HS.out; rw [ByteArray.size_append]; show s.size + 1 + n ≤ 100; omega); rintro e w4 ⟨rfl, hI4, hk4⟩; have HI4 := a_ hI4; have HK4 := a_ hk4; clear hI4 hk4)
        go_ret
        exact ⟨rfl, HLE.out _ _ _ _ HI4.out (fun k hk => (HFF.out k hk).1), HT2.out.trans (HK4.out.sub (fun k hk => (HFF.out k hk).1))⟩
       | false =>
        have h2 := HR2.out
        rw [if_neg (by simp)] at h2
        have HR3 := a_ h2
        clear HR2 h2
        go_wp2_with (go_at_call 73; ( refine (HIH.out a (c + 1) (s ++ (⟨#[82]⟩ : ByteArray)) x1 x2 false F' _ ?z0 ?z1 HI2.out HR1.out).mono ?_); (case z0 => have := HC.out; omega); (case z1 => have := HS.out; rw [ByteArray.size_append]; show s.size + 1 + n ≤ 100; omega); rintro e w4 ⟨rfl, hI4, hk4⟩; have HI4 := a_ hI4; have HK4 := a_ hk4; clear hI4 hk4)
        go_roundg k1
        case measure => omega
        case rel => exact ⟨2 + 1, _, x2, ⟨lZ, by omega⟩, ⟨(HK4.out.2 kI HFk.out).trans HK2.out⟩, HI4, ⟨HT2.out.trans (HK4.out.sub (fun k hk => (HFF.out k hk).1))⟩, ⟨HR3.out, rfl⟩⟩
      ·have hnx : (Instr.next (.pointer (some ⟨kI, 0, none⟩)) true 0).run Tryz.prog wr = .ok (.tuple #[.bool true, .int .i64 (3 : Nat), .int .i32 ((84 : UInt8).toNat : Int)]) (wr.iterAt kI (⟨#[66, 76, 82, 84]⟩ : ByteArray) (3 + 1)) := Lib.run_next_ascii_at wr kI (⟨#[66, 76, 82, 84]⟩ : ByteArray) 3 0 HK.out (by decide) (by decide)
       rw [show ((84 : UInt8).toNat : Int) = 84 from rfl] at hnx
       have HI2 := a_ (HST.out F' x1 wr (⟨#[66, 76, 82, 84]⟩ : ByteArray) 3 (3 + 1) kI HI.out HFk.out HK.out HWS.out)
       have HK2 := a_ (Lib.iterAt_heap wr kI (⟨#[66, 76, 82, 84]⟩ : ByteArray) 3 (3 + 1) HK.out)
       have HT2 := a_ (HT.out.trans (show iQ F wr (wr.iterAt kI (⟨#[66, 76, 82, 84]⟩ : ByteArray) (3 + 1)) from ⟨lY, fun k hk => Lib.iterAt_other _ _ _ _ _ (HFF.out k hk).2⟩))
       have hcv : (convert 21 9 (.int .i32 84)).run Tryz.prog (wr.iterAt kI (⟨#[66, 76, 82, 84]⟩ : ByteArray) (3 + 1)) = .ok (.string (⟨#[84]⟩ : ByteArray)) (wr.iterAt kI (⟨#[66, 76, 82, 84]⟩ : ByteArray) (3 + 1)) := by rfl
       obtain ⟨HA1, HA2⟩ := HA.out
       have hpart : fQ (eX n) (a + 1) (c + 1) s 84 = eX n (a + 1) c (s ++ (⟨#[84]⟩ : ByteArray)) := by unfold fQ; simp
       have hrest : rest = eX n (a + 1) c (s ++ (⟨#[84]⟩ : ByteArray)) ++ (([66, 76, 82, 84] : List UInt8).drop (3 + 1)).foldr (fun ch r => fQ (eX n) (a + 1) (c + 1) s ch ++ r) [] := by rw [← hpart]; exact HA2
       rw [hrest, iN] at HA1
       obtain ⟨⟨b1, x2⟩, hr1, hr2⟩ := Option.bind_eq_some_iff.1 HA1
       have HR1 := a_ hr1
       have HR2 := a_ hr2
       clear HA HA1 HA2 hpart hrest HI HK HT hr1 hr2
       generalize wr.iterAt kI (⟨#[66, 76, 82, 84]⟩ : ByteArray) (3 + 1) = w3 at hnx HI2 HK2 HT2 hcv ⊢
       cases b1 with
       | true =>
        have h2 := HR2.out
        rw [if_pos rfl] at h2
        injection h2 with h2
        injection h2 with h2 h3
        subst h2 h3
        clear HR2
        go_wp2_with (go_at_call 73; ( refine (HIH.out (a + 1) c (s ++ (⟨#[84]⟩ : ByteArray)) x1 x2 true F' _ ?z0 ?z1 HI2.out HR1.out).mono ?_); (case z0 => have := HC.out; omega); (case z1 => have := HS.out; rw [ByteArray.size_append]; show s.size + 1 + n ≤ 100; omega); rintro e w4 ⟨rfl, hI4, hk4⟩; have HI4 := a_ hI4; have HK4 := a_ hk4; clear hI4 hk4)
        go_ret
        exact ⟨rfl, HLE.out _ _ _ _ HI4.out (fun k hk => (HFF.out k hk).1), HT2.out.trans (HK4.out.sub (fun k hk => (HFF.out k hk).1))⟩
       | false =>
        have h2 := HR2.out
        rw [if_neg (by simp)] at h2
        have HR3 := a_ h2
        clear HR2 h2
        go_wp2_with (go_at_call 73; ( refine (HIH.out (a + 1) c (s ++ (⟨#[84]⟩ : ByteArray)) x1 x2 false F' _ ?z0 ?z1 HI2.out HR1.out).mono ?_); (case z0 => have := HC.out; omega); (case z1 => have := HS.out; rw [ByteArray.size_append]; show s.size + 1 + n ≤ 100; omega); rintro e w4 ⟨rfl, hI4, hk4⟩; have HI4 := a_ hI4; have HK4 := a_ hk4; clear hI4 hk4)
        go_roundg k1
        case measure => omega
        case rel => exact ⟨3 + 1, _, x2, ⟨lZ, by omega⟩, ⟨(HK4.out.2 kI HFk.out).trans HK2.out⟩, HI4, ⟨HT2.out.trans (HK4.out.sub (fun k hk => (HFF.out k hk).1))⟩, ⟨HR3.out, rfl⟩⟩
      ·have hnx : (Instr.next (.pointer (some ⟨kI, 0, none⟩)) true 0).run Tryz.prog wr = .ok (.tuple #[.bool false]) wr := Lib.run_next_end_at wr kI (⟨#[66, 76, 82, 84]⟩ : ByteArray) 4 0 HK.out (by decide)
       obtain ⟨HA1, HA2⟩ := HA.out
       have hnil : rest = [] := HA2
       rw [hnil, kQ] at HA1
       injection HA1 with HA1
       injection HA1 with h2 h3
       subst h2 h3
       clear HA HA2 hnil
       go_wp2
       go_ret
       exact ⟨rfl, HLE.out _ _ _ _ HI.out (fun k hk => (HFF.out k hk).1), HT.out⟩
def nD (w : World) (F : Nat → Prop) (b : Nat) (l : List ByteArray) (W : World) : Prop := Below w.heap.size w W ∧ (∀ k, F k → k < W.heap.size ∧ k ≠ b) ∧ w.heap.size ≤ b ∧ ∃ v, W.heap[b]? = some (.cells #[v] 46 (0, 0)) ∧ Kd.R Kd.string 9 W w.heap.size (fun k => ¬ F k ∧ k ≠ b) v l
theorem nD.iter {w : World} {F : Nat → Prop} {b : Nat} {l : List ByteArray} {W : World} (hI : nD w F b l W) (s : ByteArray) : nD w (fun k => F k ∨ k = W.heap.size) b l (W.alloc (.stringIter s 0)) ∧ (W.alloc (.stringIter s 0)).heap[W.heap.size]? = some (.stringIter s 0) ∧ iQ F W (W.alloc (.stringIter s 0)) := by
 obtain ⟨hB, hF, hb, v, hx, hR⟩ := hI
 have hlt := qf hx
 refine ⟨⟨hB.alloc (af hB) _, fun k hk => ?_, hb, v, (Lib.alloc_old _ _ _ hlt).trans hx, ?_⟩, heap_alloc_new _ _, by simp, fun k hk => Lib.alloc_old _ _ _ (hF k hk).1⟩
 ·rcases hk with hk | rfl
  ·have := hF k hk
   exact ⟨by simp; omega, this.2⟩
  ·exact ⟨by simp, by omega⟩
 ·exact Kd.ae (Kd.aC (Kd.jh hR) _) (fun k hk => ⟨fun hf => by rcases hf with hf | hf; exact hk.1.1 hf; have := hk.2.2.1; omega, hk.1.2⟩)
theorem nD.step {w : World} {F : Nat → Prop} {b kI p q : Nat} {l : List ByteArray} {W : World} {s : ByteArray} (hI : nD w F b l W) (hF' : F kI) (hk : W.heap[kI]? = some (.stringIter s p)) (hle : w.heap.size ≤ kI) : nD w F b l (W.iterAt kI s q) ∧ (W.iterAt kI s q).heap[kI]? = some (.stringIter s q) := by
 obtain ⟨hB, hF, hb, v, hx, hR⟩ := hI
 refine ⟨⟨Lib.below_iterAt hB hle _ _, fun k hk => by rw [Lib.iterAt_size]; exact hF k hk, hb, v, (Lib.iterAt_other _ _ _ _ _ (fun e => (hF kI hF').2 e.symm)).trans hx, ?_⟩, Lib.iterAt_heap _ _ _ _ _ hk⟩
 exact Kd.nQ hR (fun k hk => Lib.iterAt_other _ _ _ _ _ (fun e => hk.1 (by rw [e]; exact hF')))
theorem nD.less {w : World} {F F' : Nat → Prop} {b : Nat} {l : List ByteArray} {W : World} (hI : nD w F' b l W) (hs : ∀ k, F k → F' k) : nD w F b l W := by
 obtain ⟨hB, hF, hb, v, hx, hR⟩ := hI
 exact ⟨hB, fun k hk => hF k (hs k hk), hb, v, hx, Kd.ae hR (fun k hk => ⟨fun hf => hk.1 (hs k hf), hk.2⟩)⟩
theorem nD.below {w : World} {F : Nat → Prop} {b : Nat} {l : List ByteArray} {W W' : World} (hI : nD w F b l W) (hb : Below W.heap.size W W') : nD w F b l W' := by
 obtain ⟨hB, hF, hb0, v, hx, hR⟩ := hI
 exact ⟨hB.trans (hb.mono (af hB)), fun k hk => ⟨Nat.lt_of_lt_of_le (hF k hk).1 (af hb), (hF k hk).2⟩, hb0, v, (hb.block _ (qf hx)).trans hx, Kd.dN hR hb⟩
theorem nD.start {w w1 : World} (hB : Below w.heap.size w w1) : nD w (fun _ => False) (w1.heap.size + 1) [] ((w1.alloc (.cells #[] 9)).alloc (.cells #[.slice (some ⟨w1.heap.size, 0, none⟩) 0 0] 46)) := by
 have hs := af hB
 have hz : (w1.alloc (.cells #[] 9)).heap.size = w1.heap.size + 1 := by simp
 have hg : ((w1.alloc (.cells #[] 9)).alloc (.cells #[.slice (some ⟨w1.heap.size, 0, none⟩) 0 0] 46)).heap[w1.heap.size]? = some (.cells #[] 9 (0, 0)) := (Lib.alloc_old _ _ _ (by omega)).trans (heap_alloc_new _ _)
 refine ⟨(hB.alloc hs _).alloc (by omega) _, fun k hk => hk.elim, by omega, _, by rw [← hz]; exact heap_alloc_new _ _, Kd.kg (enc := Value.string) ⟨rfl, .inr ⟨w1.heap.size, 0, #[], rfl, hs, hg, Nat.le_refl _, by decide, rfl, rfl⟩⟩ (fun k hk => ⟨id, ?_⟩)⟩
 simp [Value.ownBlock] at hk
 omega
def ol (k : Nat) (a0 a1 : Int) (l2 l3 l4 : List Int) (s : ByteArray) (l : List ByteArray) : Option (Bool × List ByteArray) := (bL.f k a0 a1 l2 l3 l4 s).bind fun b => if b = true then (if l.length ≤ 100000 then some (false, l ++ [s]) else none) else some (false, l)
def ed.f (k : Nat) (a0_0 : Int) (a0_1 : Int) (l0_2 : List Int) (l0_3 : List Int) (l0_4 : List Int) : Option (List ByteArray × Int) := (bv.f k a0_0 a0_1 l0_2 l0_3 l0_4).bind fun b => if b = true then ((bQ.f k a0_0).bind fun x => (bQ.f k a0_1).bind fun y => if 0 ≤ x ∧ x ≤ 3 ∧ 0 ≤ y ∧ y ≤ 3 then ((kQ (ol k a0_0 a0_1 l0_2 l0_3 l0_4) (eX (x.toNat + y.toNat) x.toNat y.toNat (⟨#[]⟩ : ByteArray)) ([] : List ByteArray)).bind fun r => some (r.2, 0)) else none) else some (([] : List ByteArray), 1)
theorem zS (k : Nat) (a0 a1 : Int) (l2 l3 l4 : List Int) (s : ByteArray) (t : List ByteArray) : LeO (ol k a0 a1 l2 l3 l4 s t) (ol (k + 1) a0 a1 l2 l3 l4 s t) := LeO.bind (bL.mono _ _ _ _ _ _ _) (fun _ => LeO.refl _)
theorem ed.mono : ∀ a0 a1 a2 a3 a4 k, LeO (ed.f k a0 a1 a2 a3 a4) (ed.f (k + 1) a0 a1 a2 a3 a4) := by
 intro a0 a1 a2 a3 a4 k
 unfold ed.f
 exact LeO.bind (bv.mono _ _ _ _ _ _) (fun _ => LeO.ite (LeO.bind (bQ.mono _ _) (fun _ => LeO.bind (bQ.mono _ _) (fun _ => LeO.ite (LeO.bind (tF (fun s t => zS k a0 a1 a2 a3 a4 s t) _ _) (fun _ => LeO.refl _)) (LeO.refl _)))) (LeO.refl _))
def jl (w : World) (g b : Nat) (o : Obj) (F : Nat → Prop) (l : List ByteArray) (W : World) : Prop := nD w (fun k => F k ∨ k = g) b l W ∧ W.heap[g]? = some o ∧ ∀ k, F k → k ≠ g
theorem jl.iter {w : World} {g b : Nat} {o : Obj} {F : Nat → Prop} {l : List ByteArray} {W : World} (h : jl w g b o F l W) (s : ByteArray) : jl w g b o (fun k => F k ∨ k = W.heap.size) l (W.alloc (.stringIter s 0)) := by
 obtain ⟨h1, h2, h3⟩ := h
 have hlt := qf h2
 refine ⟨(h1.iter s).1.less (fun k hk => ?_), (Lib.alloc_old _ _ _ hlt).trans h2, fun k hk => ?_⟩
 ·rcases hk with (hk | hk) | hk
  ·exact .inl (.inl hk)
  ·exact .inr hk
  ·exact .inl (.inr hk)
 ·rcases hk with hk | rfl
  ·exact h3 k hk
  ·omega
theorem jl.step {w : World} {g b kI p q : Nat} {o : Obj} {F : Nat → Prop} {l : List ByteArray} {W : World} {s : ByteArray} (h : jl w g b o F l W) (hF : F kI) (hk : W.heap[kI]? = some (.stringIter s p)) (hle : w.heap.size ≤ kI) : jl w g b o F l (W.iterAt kI s q) :=
 ⟨(nD.step (q := q) h.1 (.inl hF) hk hle).1, (Lib.iterAt_other _ _ _ _ _ (fun e => h.2.2 kI hF e.symm)).trans h.2.1, h.2.2⟩
theorem jl.less {w : World} {g b : Nat} {o : Obj} {F F' : Nat → Prop} {l : List ByteArray} {W : World} (h : jl w g b o F' l W) (hs : ∀ k, F k → F' k) : jl w g b o F l W :=
 ⟨h.1.less (fun k hk => hk.elim (fun z => .inl (hs k z)) .inr), h.2.1, fun k hk => h.2.2 k (hs k hk)⟩
theorem jl.below {w : World} {g b : Nat} {o : Obj} {F : Nat → Prop} {l : List ByteArray} {W W' : World} (h : jl w g b o F l W) (hb : Below W.heap.size W W') : jl w g b o F l W' ∧ iQ F W W' :=
 ⟨⟨h.1.below hb, (hb.block _ (qf h.2.1)).trans h.2.1, h.2.2⟩, af hb, fun k hk => hb.block k (h.1.2.1 k (.inl hk)).1⟩
theorem jl.start {w w1 : World} {g : Nat} {o : Obj} (hB : Below w.heap.size w w1) (hg : w1.heap[g]? = some o) : jl w g (w1.heap.size + 1) o (fun _ => False) [] ((w1.alloc (.cells #[] 9)).alloc (.cells #[.slice (some ⟨w1.heap.size, 0, none⟩) 0 0] 46)) := by
 have hs := af hB
 have hl := qf hg
 have hz : (w1.alloc (.cells #[] 9)).heap.size = w1.heap.size + 1 := by simp
 have hx : ((w1.alloc (.cells #[] 9)).alloc (.cells #[.slice (some ⟨w1.heap.size, 0, none⟩) 0 0] 46)).heap[w1.heap.size]? = some (.cells #[] 9 (0, 0)) := (Lib.alloc_old _ _ _ (by omega)).trans (heap_alloc_new _ _)
 have hgg : ((w1.alloc (.cells #[] 9)).alloc (.cells #[.slice (some ⟨w1.heap.size, 0, none⟩) 0 0] 46)).heap[g]? = some o := (Lib.alloc_old _ _ _ (by omega)).trans ((Lib.alloc_old _ _ _ hl).trans hg)
 refine ⟨⟨(hB.alloc hs _).alloc (by omega) _, fun k hk => ?_, by omega, _, by rw [← hz]; exact heap_alloc_new _ _, Kd.kg (enc := Value.string) ⟨rfl, .inr ⟨w1.heap.size, 0, #[], rfl, hs, hx, Nat.le_refl _, by decide, rfl, rfl⟩⟩ (fun k hk => ?_)⟩, hgg, fun k hk => hk.elim⟩
 ·rcases hk with hk | rfl
  ·exact hk.elim
  ·exact ⟨qf hgg, by omega⟩
 ·simp [Value.ownBlock] at hk
  exact ⟨fun z => by rcases z with z | z; exact z; omega, by omega⟩
theorem CO (k : Nat) (a0_0 : Int) (a0_1 : Int) (A2 : Option Addr) (A3 : Nat) (l0_2 : List Int) (A4 : Option Addr) (A5 : Nat) (l0_3 : List Int) (A6 : Option Addr) (A7 : Nat) (l0_4 : List Int) (w : World) (hr0_2 : Kd.C (Kd.int .i64) w A2 l0_2.length l0_2) (hc0_2 : l0_2.length ≤ A3) (hr0_3 : Kd.C (Kd.int .i64) w A4 l0_3.length l0_3) (hc0_3 : l0_3.length ≤ A5) (hr0_4 : Kd.C (Kd.int .i64) w A6 l0_4.length l0_4) (hc0_4 : l0_4.length ≤ A7) (F : Nat → Prop) (g b : Nat) (l : List ByteArray) (s : ByteArray) (W : World) (r : Bool) (y : List ByteArray)
  (hI : jl w g b (.cells #[.int .i64 a0_0, .int .i64 a0_1, .slice A2 l0_2.length A3, .slice A4 l0_3.length A5, .slice A6 l0_4.length A7] 28 (0, 0)) F l W) (h : ol k a0_0 a0_1 l0_2 l0_3 l0_4 s l = some (r, y)) :
  Calls Tryz.prog 75 #[.string s, .pointer (some ⟨g, 0, none⟩), .pointer (some ⟨b, 0, none⟩)] W fun e W' => e = .returned (.bool r) ∧ jl w g b (.cells #[.int .i64 a0_0, .int .i64 a0_1, .slice A2 l0_2.length A3, .slice A4 l0_3.length A5, .slice A6 l0_4.length A7] 28 (0, 0)) F y W' ∧ iQ F W W' := by
 have hu := Tryz.underlying28
 unfold ol at h
 obtain ⟨t, ht, h1⟩ := Option.bind_eq_some_iff.1 h
 have HT := a_ ht
 have HI := a_ hI
 have HR2 := a_ (Kd.bE hr0_2 hI.1.1)
 have HR3 := a_ (Kd.bE hr0_3 hI.1.1)
 have HR4 := a_ (Kd.bE hr0_4 hI.1.1)
 have A8 := a_ hc0_2
 have A9 := a_ hc0_3
 have B0 := a_ hc0_4
 have z0 : W.cell? ⟨g, 0, none⟩ = some (.int .i64 a0_0) := (Lib.cell_of_heap hI.2.1 0).trans rfl
 have z1 : W.cell? ⟨g, 1, none⟩ = some (.int .i64 a0_1) := (Lib.cell_of_heap hI.2.1 1).trans rfl
 have z2 : W.cell? ⟨g, 2, none⟩ = some (.slice A2 l0_2.length A3) := (Lib.cell_of_heap hI.2.1 2).trans rfl
 have z3 : W.cell? ⟨g, 3, none⟩ = some (.slice A4 l0_3.length A5) := (Lib.cell_of_heap hI.2.1 3).trans rfl
 have z4 : W.cell? ⟨g, 4, none⟩ = some (.slice A6 l0_4.length A7) := (Lib.cell_of_heap hI.2.1 4).trans rfl
 clear h ht hI hr0_2 hr0_3 hr0_4 hc0_2 hc0_3 hc0_4
 cases t with
 | false =>
  rw [if_neg (by simp)] at h1
  injection h1 with h1
  injection h1 with e1 e2
  subst e1 e2
  go_enter Tryz.func75, Tryz.ntmps75
  go_wp2_with (go_at_call 40; (with_reducible refine (bL.calls k a0_0 a0_1 _ _ l0_2 _ _ l0_3 _ _ l0_4 s false _ HR2.out A8.out HR3.out A9.out HR4.out B0.out HT.out).mono ?_); rintro e w1 ⟨rfl, hb⟩; have HB1 := a_ hb; clear hb)
  go_ret
  obtain ⟨q1, q2⟩ := HI.out.below HB1.out
  exact ⟨rfl, q1, q2⟩
 | true =>
  rw [if_pos rfl] at h1
  by_cases hl : l.length ≤ 100000
  ·rw [if_pos hl] at h1
   injection h1 with h1
   injection h1 with e1 e2
   subst e1 e2
   have HL := a_ hl
   clear hl
   go_enter Tryz.func75, Tryz.ntmps75
   go_upto_if 7 with (first | (go_at_call 40; (with_reducible refine (bL.calls k a0_0 a0_1 _ _ l0_2 _ _ l0_3 _ _ l0_4 s true _ HR2.out A8.out HR3.out A9.out HR4.out B0.out HT.out).mono ?_); rintro e w1 ⟨rfl, hb⟩; have HB1 := a_ hb; clear hb))
   obtain ⟨q1, q2⟩ := HI.out.below HB1.out
   have HK1 := a_ q2
   obtain ⟨hI1, hg1, hFg⟩ := q1
   obtain ⟨hB, hF, hb, v, hbx, hR⟩ := hI1
   have hne : some b ≠ v.ownBlock := fun h => (hR.1 b h.symm).2 rfl
   have hc : w1.cell? ⟨b, 0, none⟩ = some v := by
    rw [Lib.cell_of_heap hbx]
    rfl
   have HGB := a_ hg1
   have HFG := a_ hFg
   have HB := a_ hB
   have HF := a_ hF
   have HR := a_ hR
   have HX := a_ hbx
   have HN := a_ hne
   have Hb := a_ hb
   clear hB hF hR hbx hne hb hg1 hFg q2 z0 z1 z2 z3 z4 HI HB1
   go_wp2_with ((with_reducible refine bF (b := .append) (xs := #[.tmp 8, .tmp 10]) rfl ?_); at_builtin; refine Kd.fH Kd.string (w0 := w) w.heap.size rfl (.tmp 8) (.tmp 10) 46 9 (.string (⟨#[]⟩ : ByteArray)) 16 rfl Tryz.underlying46 oG rfl (by decide) (by omega) v l s [.string s] (fun k => ¬ (F k ∨ k = g) ∧ k ≠ b) (fun _ => False) rfl rfl ?aP (fun _ hk => hk.elim) ?aF HR.out HB.out ?aS ?aL ?_; (case aP => exact rfl); (case aF => exact (fun k hk => ⟨fun hf => by have := (HF.out k hf).1; omega, by have := qf HX.out; omega⟩)); (case aS => exact af HB.out); (case aL => have := HL.out; omega); intro v1 w2 ho hb1 hg hat; obtain ⟨A1, c1, rfl⟩ := Kd.bg ho; have HX1 := a_ (dA (g := b) HX.out hg HN.out); have hc1 : w2.cell? ⟨b, 0, none⟩ = some v := (Lib.cell_of_heap HX1.out 0).trans rfl; have hf1 : w2.frozen? ⟨b, 0, none⟩ = false := Lib.frozen_of_heap HX1.out 0; have HO := a_ ho; have HG := a_ hg; have HB2 := a_ hb1; clear ho hb1 hg hat)
   go_ret
   have hO2 := HO.out
   rw [show (l ++ [s]).length = l.length + 1 by simp] at hO2
   have hsz : w1.heap.size ≤ w2.heap.size := HG.out.size
   have hfar : ∀ k, (F k ∨ k = g) → (w2.setCell ⟨b, 0, none⟩ (.slice A1 (l.length + 1) c1)).heap[k]? = w1.heap[k]? := fun k hk => (Below.heap_setCell w2 ⟨b, 0, none⟩ _ k (HF.out k hk).2).trans (HG.out.block k (HF.out k hk).1 (fun e => (HR.out.1 k e.symm).1 hk))
   exact ⟨rfl, ⟨⟨bi HB2.out Hb.out, fun k hk => ⟨by have := (HF.out k hk).1; simp; omega, (HF.out k hk).2⟩, Hb.out, _, qB HX1.out 0 _, Kd.bV hO2 (fun k hk => hk.2) _⟩, (hfar g (.inr rfl)).trans HGB.out, HFG.out⟩, HK1.out.trans ⟨by simp; exact hsz, fun k hk => hfar k (.inl hk)⟩⟩
  ·rw [if_neg hl] at h1; cases h1
-- generated: calls
theorem ed.calls (k : Nat) (a0_0 : Int) (a0_1 : Int) (A1 : Option Addr) (A2 : Nat) (l0_2 : List Int) (A3 : Option Addr) (A4 : Nat) (l0_3 : List Int) (A6 : Option Addr) (A7 : Nat) (l0_4 : List Int) (r1 : List ByteArray) (r2 : Int) (w : World) (hr0_2 : Kd.C (Kd.int .i64) w A1 l0_2.length l0_2) (hc0_2 : l0_2.length ≤ A2) (hr0_3 : Kd.C (Kd.int .i64) w A3 l0_3.length l0_3) (hc0_3 : l0_3.length ≤ A4) (hr0_4 : Kd.C (Kd.int .i64) w A6 l0_4.length l0_4) (hc0_4 : l0_4.length ≤ A7) (h : ed.f k a0_0 a0_1 l0_2 l0_3 l0_4 = some (r1, r2)) :
  Calls Tryz.prog 26 #[.agg #[.int .i64 a0_0, .int .i64 a0_1, .slice A1 l0_2.length A2, .slice A3 l0_3.length A4, .slice A6 l0_4.length A7]] w fun e w' => ∃ v0_ : Value, e = .returned (.tuple #[v0_, .int .i64 r2]) ∧ Kd.R Kd.string 9 w' w.heap.size (fun _ => True) v0_ r1 ∧ Below w.heap.size w w' := by
 have hu := Tryz.underlying28
 unfold ed.f at h
 obtain ⟨t, ht, h0⟩ := Option.bind_eq_some_iff.1 h
 clear h
 have h := h0
 clear h0
 have HT := a_ ht
 have HR2 := a_ hr0_2
 have HR3 := a_ hr0_3
 have HR4 := a_ hr0_4
 have A8 := a_ hc0_2
 have A9 := a_ hc0_3
 have B7 := a_ hc0_4
 have B0 := a_ (show Below w.heap.size w (w.alloc (.cells #[.int .i64 a0_0, .int .i64 a0_1, .slice A1 l0_2.length A2, .slice A3 l0_3.length A4, .slice A6 l0_4.length A7] 28)) from aW (Below.refl _ _) _)
 have B1 := a_ (show (w.alloc (.cells #[.int .i64 a0_0, .int .i64 a0_1, .slice A1 l0_2.length A2, .slice A3 l0_3.length A4, .slice A6 l0_4.length A7] 28)).heap[w.heap.size]? = some (.cells #[.int .i64 a0_0, .int .i64 a0_1, .slice A1 l0_2.length A2, .slice A3 l0_3.length A4, .slice A6 l0_4.length A7] 28 (0, 0)) from heap_alloc_new _ _)
 clear ht hr0_2 hr0_3 hr0_4 hc0_2 hc0_3 hc0_4
 obtain ⟨g, hg⟩ : ∃ g : Nat, w.heap.size = g := ⟨_, rfl⟩
 have HG := a_ hg
 have B2 := a_ (show g < (w.alloc (.cells #[.int .i64 a0_0, .int .i64 a0_1, .slice A1 l0_2.length A2, .slice A3 l0_3.length A4, .slice A6 l0_4.length A7] 28)).heap.size by rw [← hg]; exact qf B1.out)
 rw [hg] at B1
 have hmf : ∀ (fn : Fn) (first cap : Array Value) (w : World), (Instr.makeFunc fn first cap).run Tryz.prog w = .ok (.func fn first cap) w := fun _ _ _ _ => rfl
 cases t with
 | false =>
  rw [if_neg (by simp)] at h
  injection h with h
  injection h with e1 e2
  subst e1 e2
  go_enter Tryz.func26, Tryz.ntmps26
  go_upto_region 1 with (fail)
  clear hg
  generalize w.alloc (.cells #[.int .i64 a0_0, .int .i64 a0_1, .slice A1 l0_2.length A2, .slice A3 l0_3.length A4, .slice A6 l0_4.length A7] 28) = w0 at B0 B1 B2 ⊢
  have q0 : w0.cell? ⟨g, 0, none⟩ = some (.int .i64 a0_0) := (ai B1.out 0).trans rfl
  have q1 : w0.cell? ⟨g, 1, none⟩ = some (.int .i64 a0_1) := (ai B1.out 1).trans rfl
  have q2 : w0.cell? ⟨g, 2, none⟩ = some (.slice A1 l0_2.length A2) := (ai B1.out 2).trans rfl
  have q3 : w0.cell? ⟨g, 3, none⟩ = some (.slice A3 l0_3.length A4) := (ai B1.out 3).trans rfl
  have q4 : w0.cell? ⟨g, 4, none⟩ = some (.slice A6 l0_4.length A7) := (ai B1.out 4).trans rfl
  go_wp2_with (go_at_call 20; (with_reducible refine (bv.calls k a0_0 a0_1 (fun k_ => k_ < w.heap.size) _ _ l0_2 (fun k_ => k_ < w.heap.size) _ _ l0_3 _ _ l0_4 false _ ?side1 ?side2 ?side3 ?side4 HT.out).mono ?_); (case side1 => exact Kd.rQ A8.out (Kd.jg (Kd.C_F (Kd.jb .i64) HR2.out) B0.out)); (case side2 => exact Kd.rQ A9.out (Kd.jg (Kd.C_F (Kd.jb .i64) HR3.out) B0.out)); (case side3 => exact Kd.bE HR4.out B0.out); (case side4 => exact B7.out); rintro e w1 ⟨rfl, hb⟩; have HB1 := a_ hb; clear hb)
  go_ret2
  exact ⟨_, rfl, Kd.qM _ _ _ _ _, B0.out.trans (HB1.out.mono (af B0.out))⟩
 | true =>
  rw [if_pos rfl] at h
  obtain ⟨x, hx, h2⟩ := Option.bind_eq_some_iff.1 h
  clear h
  obtain ⟨y, hy, h⟩ := Option.bind_eq_some_iff.1 h2
  clear h2
  by_cases hc : 0 ≤ x ∧ x ≤ 3 ∧ 0 ≤ y ∧ y ≤ 3
  ·rw [if_pos hc] at h
   obtain ⟨p, rfl⟩ := Int.eq_ofNat_of_zero_le hc.1
   obtain ⟨q, rfl⟩ := Int.eq_ofNat_of_zero_le hc.2.2.1
   simp only [Int.toNat_natCast] at h hc
   obtain ⟨⟨b, t⟩, hrun, h3⟩ := Option.bind_eq_some_iff.1 h
   injection h3 with h3
   injection h3 with e1 e2
   subst e1 e2
   have HX := a_ hx
   have HY := a_ hy
   have HCC := a_ hc
   have HRUN := a_ hrun
   clear hx hy hc h hrun
   go_enter Tryz.func26, Tryz.ntmps26
   go_upto_region 1 with (fail)
   clear hg
   generalize w.alloc (.cells #[.int .i64 a0_0, .int .i64 a0_1, .slice A1 l0_2.length A2, .slice A3 l0_3.length A4, .slice A6 l0_4.length A7] 28) = w0 at B0 B1 B2 ⊢
   have q0 : w0.cell? ⟨g, 0, none⟩ = some (.int .i64 a0_0) := (ai B1.out 0).trans rfl
   have q1 : w0.cell? ⟨g, 1, none⟩ = some (.int .i64 a0_1) := (ai B1.out 1).trans rfl
   have q2 : w0.cell? ⟨g, 2, none⟩ = some (.slice A1 l0_2.length A2) := (ai B1.out 2).trans rfl
   have q3 : w0.cell? ⟨g, 3, none⟩ = some (.slice A3 l0_3.length A4) := (ai B1.out 3).trans rfl
   have q4 : w0.cell? ⟨g, 4, none⟩ = some (.slice A6 l0_4.length A7) := (ai B1.out 4).trans rfl
   go_upto_region 3 with (first | (go_at_call 20; (with_reducible refine (bv.calls k a0_0 a0_1 (fun k_ => k_ < w.heap.size) _ _ l0_2 (fun k_ => k_ < w.heap.size) _ _ l0_3 _ _ l0_4 true _ ?side1 ?side2 ?side3 ?side4 HT.out).mono ?_); (case side1 => exact Kd.rQ A8.out (Kd.jg (Kd.C_F (Kd.jb .i64) HR2.out) B0.out)); (case side2 => exact Kd.rQ A9.out (Kd.jg (Kd.C_F (Kd.jb .i64) HR3.out) B0.out)); (case side3 => exact Kd.bE HR4.out B0.out); (case side4 => exact B7.out); rintro e w1 ⟨rfl, hb⟩; have HB1 := a_ hb; clear hb))
   have B3 := a_ (B0.out.trans (HB1.out.mono (af B0.out)))
   have B4 := a_ ((HB1.out.block _ B2.out).trans B1.out)
   clear q0 q1 q2 q3 q4 HB1 B0 B1 B2
   go_upto_region 4 with (fail)
   have HI0 := a_ (jl.start B3.out B4.out)
   obtain ⟨m, hm⟩ : ∃ m : Nat, w1.heap.size = m := ⟨_, rfl⟩
   rw [hm] at HI0 ⊢
   clear hm
   generalize (w1.alloc (.cells #[] 9)).alloc (.cells #[.slice (some ⟨m, 0, none⟩) 0 0] 46) = w2 at HI0 ⊢
   refine gQ (n := 8) (S := fun w' => w'.cell? ⟨g, 0, none⟩ = some (.int .i64 a0_0) ∧ w'.cell? ⟨g, 1, none⟩ = some (.int .i64 a0_1)) (ds := []) #[false, false, false, false, false, false, false, false] (by kernel_rfl) rfl rfl ⟨(Lib.cell_of_heap HI0.out.2.1 0).trans rfl, (Lib.cell_of_heap HI0.out.2.1 1).trans rfl⟩ (fun hHeld => ?_)
   have HI2 := a_ (jl.below HI0.out (aU (Below.refl _ _))).1
   clear HI0
   generalize w2.drew = w3 at HI2 hHeld ⊢
   refine pv_ 0 (some 9) ?_ (hc := (by kernel_rfl))
   refine pv_ 3 (some 12) ?_ (hc := (by kernel_rfl))
   refine pv_ 6 (some 15) ?_ (hc := (by kernel_rfl))
   refine nG (i := 1) (N := some 10) hHeld ?_ (hc := (by kernel_rfl))
   refine nG (i := 4) (N := some 13) hHeld ?_ (hc := (by kernel_rfl))
   refine on_ (i := 2) (N := some 11) (fun K hK => ?_) (hc := (by kernel_rfl))
   refine jq Tryz.func74 (by kernel_rfl) rfl #[.int .i64 a0_0] (by rfl) rfl rfl qh ?_
   with_reducible refine (bQ.calls k a0_0 (p : Int) _ HX.out).mono ?_
   rintro e w_ ⟨rfl, ⟨nd11, rfl⟩⟩
   have HI3 := a_ (jl.below HI2.out (aN (Below.refl _ _) nd11)).1
   refine ⟨_, rfl, ?_⟩
   refine hK.out _ _ hHeld (fun hHeld => ?_)
   clear hK K
   refine nm_ ?_
   refine on_ (i := 5) (N := some 14) (fun K hK => ?_) (hc := (by kernel_rfl))
   refine jq Tryz.func74 (by kernel_rfl) rfl #[.int .i64 a0_1] (by rfl) rfl rfl qh ?_
   with_reducible refine (bQ.calls k a0_1 (q : Int) _ HY.out).mono ?_
   rintro e w_ ⟨rfl, ⟨nd14, rfl⟩⟩
   have HI4 := a_ (jl.below HI3.out (aN (Below.refl _ _) nd14)).1
   refine ⟨_, rfl, ?_⟩
   refine hK.out _ _ hHeld (fun hHeld => ?_)
   clear hK K
   refine nm_ ?_
   refine on_ (i := 7) (N := some 16) (fun K hK => ?_) (hc := (by kernel_rfl))
   refine jq Tryz.func73 (by kernel_rfl) rfl #[.int .i64 (p : Int), .int .i64 (q : Int), .string (⟨#[]⟩ : ByteArray), .func (.func 75) #[] #[.pointer (some ⟨g, 0, none⟩), .pointer (some ⟨m + 1, 0, none⟩)]] (by rfl) rfl rfl qh ?_
   refine (yZ (CF := 75) #[.pointer (some ⟨g, 0, none⟩), .pointer (some ⟨m + 1, 0, none⟩)] (ol k a0_0 a0_1 l0_2 l0_3 l0_4) (fun F l W => jl w g (m + 1) (.cells #[.int .i64 a0_0, .int .i64 a0_1, .slice A1 l0_2.length A2, .slice A3 l0_3.length A4, .slice A6 l0_4.length A7] 28 (0, 0)) F l W) w Tryz.func75 (by kernel_rfl) rfl (fun F x W h => ⟨af h.1.1, fun k hk => (h.1.2.1 k (.inl hk)).1⟩) (fun F x W s h => jl.iter h s) (fun F x W s p q kI h hk hq hl => jl.step (q := q) h hk hq hl) (fun F F' x W h hs => h.less hs) (fun F x W s b y h hp => CO k a0_0 a0_1 A1 A2 l0_2 A3 A4 l0_3 A6 A7 l0_4 w HR2.out A8.out HR3.out A9.out HR4.out B7.out F g (m + 1) x s W b y h hp) (p + q) p q (⟨#[]⟩ : ByteArray) ([] : List ByteArray) t b (fun _ => False) _ rfl (by have := HCC.out; show 0 + (p + q) ≤ 100; omega) HI4.out HRUN.out).mono ?_
   rintro e C0 ⟨rfl, hI5, _⟩
   have HI5 := a_ hI5
   clear hI5
   refine ⟨_, rfl, ?_⟩
   refine hK.out _ _ ⟨(Lib.cell_of_heap HI5.out.2.1 0).trans rfl, (Lib.cell_of_heap HI5.out.2.1 1).trans rfl⟩ (fun hHeld => ?_)
   clear hK K
   refine nm_ ?_
   refine ja (by kernel_rfl) ?_
   obtain ⟨⟨hB5, _, _, v5, hx5, hR5⟩, _, _⟩ := HI5.out
   have hc5 : C0.cell? ⟨m + 1, 0, none⟩ = some v5 := (Lib.cell_of_heap hx5 0).trans rfl
   obtain ⟨A5, c5, rfl⟩ := Kd.bg hR5
   have HR5 := a_ hR5
   have HB5 := a_ hB5
   clear hR5 hB5 hx5 HI5
   go_wp2
   go_ret2
   exact ⟨_, rfl, Kd.ae HR5.out (fun _ _ => trivial), HB5.out⟩
  ·rw [if_neg hc] at h; cases h
end Go.Proofs.YtkpidjmhdagkfaaGreatDoor.QFnReadForms
