-- Written by own_print.py of this session's repo over the kit's print (its output, turned at some places).
import Derived.Test.YtijbccmcfagnfaaQFnExactFindSchemex0
import Derived.Test.YtijbccmcfagnfaaQFnExactFindSchemex6
import Derived.Test.YtijbccmcfagnfaaQFnExactFindSchemex7
import Derived.Test.YtijbccmcfagnfaaQFnExactFindSchemex9
namespace Go.Proofs.Ytijbccmcfagnfaa.QFnExactFindScheme
open Go.RowKit Go.Proofs.YtijbccmcfagnfaaW.PrintWords Go.Proofs.YtijbccmcfagnfaaW.PrintLast Go.Proofs.YtijbccmcfagnfaaW.PrintMore
attribute [local go_sem] max2_int min2_int max_two min_two max_three min_three max_four min_four   -- for this text's walks alone
set_option linter.unusedVariables false
set_option linter.unusedSimpArgs false

/-! ### impl_schemes -/
def schP (f : Nat → Nat → ByteArray → List ByteArray) (a c : Nat) (d : ByteArray) (ch : UInt8) : List ByteArray := if ch = 66 ∨ ch = 84 then (if 0 < c then f a (c - 1) (d ++ (⟨#[ch]⟩ : ByteArray)) else []) else (if 0 < a then f (a - 1) c (d ++ (⟨#[ch]⟩ : ByteArray)) else [])
def schL : Nat → Nat → Nat → ByteArray → List ByteArray
  | 0, _, _, d => [d]
  | n + 1, a, c, d => schP (schL n) a c d 66 ++ (schP (schL n) a c d 76 ++ (schP (schL n) a c d 82 ++ (schP (schL n) a c d 84 ++ [])))
def runL {σ : Type} (stp : ByteArray → σ → Option (Bool × σ)) : List ByteArray → σ → Option (Bool × σ)
  | [], x => some (false, x)
  | s :: t, x => (stp s x).bind fun r => if r.1 = true then some (true, r.2) else runL stp t r.2
theorem runL_append {σ : Type} (stp : ByteArray → σ → Option (Bool × σ)) : ∀ (l m : List ByteArray) (x : σ), runL stp (l ++ m) x = (runL stp l x).bind fun r => if r.1 = true then some (true, r.2) else runL stp m r.2
  | [], m, x => rfl
  | s :: t, m, x => by
    rw [List.cons_append, runL, runL]
    cases stp s x with
    | none => rfl
    | some r =>
      simp only [Option.bind_some]
      cases h : r.1 with
      | true => rfl
      | false => simp only [Bool.false_eq_true, if_false]; exact runL_append stp t m r.2
theorem runL_one {σ : Type} {stp : ByteArray → σ → Option (Bool × σ)} {s : ByteArray} {x y : σ} {b : Bool} (h : runL stp [s] x = some (b, y)) : stp s x = some (b, y) := by
  rw [runL] at h
  cases hs : stp s x with
  | none => rw [hs] at h; cases h
  | some r =>
    rw [hs] at h
    simp only [Option.bind_some] at h
    obtain ⟨c, z⟩ := r
    cases c with
    | true => exact h
    | false => exact h
theorem runL_mono {σ : Type} {p q : ByteArray → σ → Option (Bool × σ)} (h : ∀ s x, LeO (p s x) (q s x)) : ∀ (l : List ByteArray) (x : σ), LeO (runL p l x) (runL q l x)
  | [], _ => LeO.refl _
  | s :: t, x => LeO.bind (h s x) (fun r => LeO.ite (LeO.refl _) (runL_mono h t r.2))
def SKept (F : Nat → Prop) (W W' : World) : Prop := W.heap.size ≤ W'.heap.size ∧ ∀ k, F k → W'.heap[k]? = W.heap[k]?
theorem SKept.trans {F : Nat → Prop} {W W' W2 : World} (h : SKept F W W') (h2 : SKept F W' W2) : SKept F W W2 := ⟨Nat.le_trans h.1 h2.1, fun k hk => (h2.2 k hk).trans (h.2 k hk)⟩
theorem SKept.sub {F F' : Nat → Prop} {W W' : World} (h : SKept F' W W') (hs : ∀ k, F k → F' k) : SKept F W W' := ⟨h.1, fun k hk => h.2 k (hs k hk)⟩
theorem sk_lt {W : World} {b : Nat} {o : Obj} (h : W.heap[b]? = some o) : b < W.heap.size := (Array.getElem?_eq_some_iff.1 h).1
theorem scL {P : Program} {ops : Array Oper} {Q : Exit → Act → World → Prop} {rest : List Oper} {oi : Oper} {a : Act} {w : World} (t : Tmp) (N : Option Tmp) (hd : oi.dst = N) (hg : oi.guard = none) {f : FuncId} {fn : Func} {as1 : Array Operand} {ts : Array TypeId} {cap : Array Value} (hf : P.funcs[f]? = some fn) (hname : (fn.name == "runtime.NumGoroutine") = false) (hb : fn.body.isSome = true) (args as0 : Array Value)
    (hop : oi.op = .call { callee := .value (.tmp t), args := as1, argTypes := ts }) (ht : a.eval (.tmp t) = .func (.func f) #[] cap) (has : as1.map a.eval = as0) (hargs : as0 ++ cap = args)
    (h : Calls P f args w fun e w' => ∃ v, e = .returned v ∧ wpList P ops Q rest (a.put N v) w') : wpList P ops Q (oi :: rest) a w := by
  refine wpList_plain hg fun K hK => ?_
  have he := enters_ hf hname hb args w
  have hrun : (execOp a.eval oi).run P w = .ok (.enter f args) w := by
    unfold execOp
    simp [hop, resolve, Deferred.ofValue, invoke, ht, has]
    rw [hargs]
    exact he
  unfold Oper.wp
  rw [hrun, Oper.upon_enter]
  refine h.mono fun e w'' hh => ?_
  obtain ⟨v, rfl, hk⟩ := hh
  subst hd
  exact hK _ _ hk

set_option maxHeartbeats 40000000 in
set_option maxRecDepth 100000 in
theorem sc_calls {σ : Type} {CF : FuncId} {fn : Func} (cap : Array Value) (stp : ByteArray → σ → Option (Bool × σ)) (Inv : (Nat → Prop) → σ → World → Prop) (w : World) (hf : Try.prog.funcs[CF]? = some fn) (hname : (fn.name == "runtime.NumGoroutine") = false) (hb : fn.body.isSome = true)
    (hsz : ∀ F x W, Inv F x W → w.heap.size ≤ W.heap.size ∧ ∀ k, F k → k < W.heap.size)
    (hit : ∀ F x W s, Inv F x W → Inv (fun k => F k ∨ k = W.heap.size) x (W.alloc (.stringIter s 0)))
    (hst : ∀ F x W s p q kI, Inv F x W → F kI → W.heap[kI]? = some (.stringIter s p) → w.heap.size ≤ kI → Inv F x (W.iterAt kI s q))
    (hle : ∀ F F' x W, Inv F' x W → (∀ k, F k → F' k) → Inv F x W)
    (hcl : ∀ F x W s b y, Inv F x W → stp s x = some (b, y) → Calls Try.prog CF (#[.string s] ++ cap) W fun e W' => e = .returned (.bool b) ∧ Inv F y W' ∧ SKept F W W') :
    ∀ (n a c : Nat) (s : ByteArray) (x y : σ) (b : Bool) (F : Nat → Prop) (W : World), a + c = n → s.size + n ≤ 100 → Inv F x W → runL stp (schL n a c s) x = some (b, y) →
    Calls Try.prog 22 #[.int .i64 (a : Int), .int .i64 (c : Int), .string s, .func (.func CF) #[] cap] W fun e W' => e = .returned (.bool b) ∧ Inv F y W' ∧ SKept F W W' := by
  have HFN := Aside0.mk hf
  have HNM := Aside0.mk hname
  have HBD := Aside0.mk hb
  have HSZ := Aside0.mk hsz
  have HIT := Aside0.mk hit
  have HST := Aside0.mk hst
  have HLE := Aside0.mk hle
  have HCL := Aside0.mk hcl
  clear hf hname hb hsz hit hst hle hcl
  intro n
  induction n with
  | zero =>
    intro a c s x y b F W hn hs hI hr
    obtain rfl : a = 0 := by omega
    obtain rfl : c = 0 := by omega
    have HI := Aside0.mk hI
    have HR := Aside0.mk (runL_one hr)
    clear hI hr
    go_enter Try.func22, Try.ntmps22
    go_wp2_with ((with_reducible refine gate_dst (N := 19) rfl ?_); refine scL 17 (some 19) rfl rfl HFN.out HNM.out HBD.out (#[.string s] ++ cap) #[.string s] rfl rfl (by (try simp only [List.map_toArray, List.map_cons, List.map_nil]); first | done | rfl) rfl ?_; refine (HCL.out F x _ s b y HI.out HR.out).mono ?_; rintro e w1 ⟨rfl, hI1, hk1⟩; refine ⟨_, rfl, ?_⟩; have HI1 := Aside0.mk hI1; have HK1 := Aside0.mk hk1; clear hI1 hk1)
    go_ret
    exact ⟨rfl, HI1.out, HK1.out⟩
  | succ n ih =>
    intro a c s x y b F W hn hs hI hr
    have HIH := Aside0.mk ih
    have HS := Aside0.mk hs
    have HR := Aside0.mk hr
    have n4 : (9223372036854775807 < s.size + 1) = False := eq_false (by omega)
    have n5 : decide (s.size + 1 ≤ 9223372036854775807) = true := decide_eq_true (by omega)
    have HWS := Aside0.mk (HSZ.out _ _ _ hI).1
    have HFS := Aside0.mk (HSZ.out _ _ _ hI).2
    have i1 := HIT.out F x W (⟨#[66, 76, 82, 84]⟩ : ByteArray) hI
    have i2 : (W.alloc (.stringIter (⟨#[66, 76, 82, 84]⟩ : ByteArray) 0)).heap[W.heap.size]? = some (.stringIter (⟨#[66, 76, 82, 84]⟩ : ByteArray) 0) := heap_alloc_new _ _
    have i3 : SKept F W (W.alloc (.stringIter (⟨#[66, 76, 82, 84]⟩ : ByteArray) 0)) := ⟨by simp, fun k hk => Lib.alloc_old _ _ _ (HFS.out k hk)⟩
    clear ih hI hs hr
    have HC := Aside0.mk hn
    clear hn
    rcases a with _ | a
    · skip
      have nc : (((c : Nat) : Int) == 0) = false := by rw [beq_eq_false_iff_ne]; have := HC.out; omega
      have gc : decide (((c : Nat) : Int) > 0) = true := decide_eq_true (by have := HC.out; omega)
      have HCc := Aside0.mk (show 0 < c by have := HC.out; omega)
      have gcn : decide (0 < c) = true := decide_eq_true HCc.out
      have m1 : wrap64 (((c : Nat) : Int) - 1) = ((c - 1 : Nat) : Int) := by have := HC.out; have := HS.out; unfold wrap64; omega
      have m2 : IntKind.i64.wrap (((c : Nat) : Int) - 1) = ((c - 1 : Nat) : Int) := (i64_w _).trans m1
      go_enter Try.func22, Try.ntmps22
      go_wp2
      change Code.wp _ _ _ _ (W.alloc (.stringIter (⟨#[66, 76, 82, 84]⟩ : ByteArray) 0))
      have I1 := Aside0.mk i1
      have I2 := Aside0.mk i2
      have I3 := Aside0.mk i3
      clear i1 i2 i3
      generalize W.alloc (.stringIter (⟨#[66, 76, 82, 84]⟩ : ByteArray) 0) = w0 at I1 I2 I3 ⊢
      obtain ⟨kI, hkI⟩ : ∃ kI : Nat, W.heap.size = kI := ⟨_, rfl⟩
      obtain ⟨F', hF'⟩ : ∃ F' : Nat → Prop, (fun k => F k ∨ k = kI) = F' := ⟨_, rfl⟩
      have HFk := Aside0.mk (show F' kI by rw [← hF']; exact .inr rfl)
      have HFF := Aside0.mk (show ∀ k, F k → F' k ∧ k ≠ kI by rw [← hF']; exact fun k hk => ⟨.inl hk, fun e => by have := HFS.out k hk; omega⟩)
      rw [hkI] at I1 I2 HWS ⊢
      rw [hF'] at I1
      clear hkI hF' HFS
      go_loopg [] 5 (fun kq W' => ∃ (p : Nat) (rest : List ByteArray) (x1 : σ), Aside0 (p + kq = 5 ∧ p ≤ 4) ∧ Aside0 (W'.heap[kI]? = some (.stringIter (⟨#[66, 76, 82, 84]⟩ : ByteArray) p)) ∧ Aside0 (Inv F' x1 W') ∧ Aside0 (SKept F W W') ∧ Aside0 (runL stp rest x1 = some (b, y) ∧ rest = (([66, 76, 82, 84] : List UInt8).drop p).foldr (fun ch r => schP (schL n) 0 c s ch ++ r) []))
      case atStart => exact ⟨0, _, x, ⟨by omega, by omega⟩, I2, I1, I3, ⟨by have h := HR.out; rw [schL] at h; exact h, rfl⟩⟩
      case round =>
        clear I1 I2 I3 HR
        obtain ⟨p, rest, x1, HP, HK, HI, HT, HA⟩ := hrel
        have hp := HP.out
        cases gk with
        | zero => exact absurd HP.out (fun h => by omega)
        | succ k1 =>
          have hpc : p = 0 ∨ p = 1 ∨ p = 2 ∨ p = 3 ∨ p = 4 := by omega
          clear hp
          rcases hpc with rfl | rfl | rfl | rfl | rfl
          · have hnx : (Instr.next (.pointer (some ⟨kI, 0, none⟩)) true 0).run Try.prog wr = .ok (.tuple #[.bool true, .int .i64 (0 : Nat), .int .i32 ((66 : UInt8).toNat : Int)]) (wr.iterAt kI (⟨#[66, 76, 82, 84]⟩ : ByteArray) (0 + 1)) := Lib.run_next_ascii_at wr kI (⟨#[66, 76, 82, 84]⟩ : ByteArray) 0 0 HK.out (by decide) (by decide)
            rw [show ((66 : UInt8).toNat : Int) = 66 from rfl] at hnx
            have HI2 := Aside0.mk (HST.out F' x1 wr (⟨#[66, 76, 82, 84]⟩ : ByteArray) 0 (0 + 1) kI HI.out HFk.out HK.out HWS.out)
            have HK2 := Aside0.mk (Lib.iterAt_heap wr kI (⟨#[66, 76, 82, 84]⟩ : ByteArray) 0 (0 + 1) HK.out)
            have HT2 := Aside0.mk (HT.out.trans (show SKept F wr (wr.iterAt kI (⟨#[66, 76, 82, 84]⟩ : ByteArray) (0 + 1)) from ⟨by rw [Lib.iterAt_size]; exact Nat.le_refl _, fun k hk => Lib.iterAt_other _ _ _ _ _ (HFF.out k hk).2⟩))
            have hcv : (convert 21 9 (.int .i32 66)).run Try.prog (wr.iterAt kI (⟨#[66, 76, 82, 84]⟩ : ByteArray) (0 + 1)) = .ok (.string (⟨#[66]⟩ : ByteArray)) (wr.iterAt kI (⟨#[66, 76, 82, 84]⟩ : ByteArray) (0 + 1)) := by rfl
            obtain ⟨HA1, HA2⟩ := HA.out
            have hpart : schP (schL n) 0 c s 66 = schL n 0 (c - 1) (s ++ (⟨#[66]⟩ : ByteArray)) := by unfold schP; simp [HCc.out]
            have hrest : rest = schL n 0 (c - 1) (s ++ (⟨#[66]⟩ : ByteArray)) ++ (([66, 76, 82, 84] : List UInt8).drop (0 + 1)).foldr (fun ch r => schP (schL n) 0 c s ch ++ r) [] := by rw [← hpart]; exact HA2
            rw [hrest, runL_append] at HA1
            obtain ⟨⟨b1, x2⟩, hr1, hr2⟩ := Option.bind_eq_some_iff.1 HA1
            have HR1 := Aside0.mk hr1
            have HR2 := Aside0.mk hr2
            clear HA HA1 HA2 hpart hrest HI HK HT hr1 hr2
            generalize wr.iterAt kI (⟨#[66, 76, 82, 84]⟩ : ByteArray) (0 + 1) = w3 at hnx HI2 HK2 HT2 hcv ⊢
            cases b1 with
            | true =>
              have h2 := HR2.out
              rw [if_pos rfl] at h2
              injection h2 with h2
              injection h2 with h2 h3
              subst h2 h3
              clear HR2
              go_wp2_with (go_at_call 22; ( refine (HIH.out 0 (c - 1) (s ++ (⟨#[66]⟩ : ByteArray)) x1 x2 true F' _ ?z0 ?z1 HI2.out HR1.out).mono ?_); (case z0 => have := HC.out; omega); (case z1 => have := HS.out; rw [ByteArray.size_append]; show s.size + 1 + n ≤ 100; omega); rintro e w4 ⟨rfl, hI4, hk4⟩; have HI4 := Aside0.mk hI4; have HK4 := Aside0.mk hk4; clear hI4 hk4)
              go_ret
              exact ⟨rfl, HLE.out _ _ _ _ HI4.out (fun k hk => (HFF.out k hk).1), HT2.out.trans (HK4.out.sub (fun k hk => (HFF.out k hk).1))⟩
            | false =>
              have h2 := HR2.out
              rw [if_neg (by simp)] at h2
              have HR3 := Aside0.mk h2
              clear HR2 h2
              go_wp2_with (go_at_call 22; ( refine (HIH.out 0 (c - 1) (s ++ (⟨#[66]⟩ : ByteArray)) x1 x2 false F' _ ?z0 ?z1 HI2.out HR1.out).mono ?_); (case z0 => have := HC.out; omega); (case z1 => have := HS.out; rw [ByteArray.size_append]; show s.size + 1 + n ≤ 100; omega); rintro e w4 ⟨rfl, hI4, hk4⟩; have HI4 := Aside0.mk hI4; have HK4 := Aside0.mk hk4; clear hI4 hk4)
              go_roundg k1
              case measure => omega
              case rel => exact ⟨0 + 1, _, x2, ⟨by have := HP.out; omega, by omega⟩, ⟨(HK4.out.2 kI HFk.out).trans HK2.out⟩, HI4, ⟨HT2.out.trans (HK4.out.sub (fun k hk => (HFF.out k hk).1))⟩, ⟨HR3.out, rfl⟩⟩
          · have hnx : (Instr.next (.pointer (some ⟨kI, 0, none⟩)) true 0).run Try.prog wr = .ok (.tuple #[.bool true, .int .i64 (1 : Nat), .int .i32 ((76 : UInt8).toNat : Int)]) (wr.iterAt kI (⟨#[66, 76, 82, 84]⟩ : ByteArray) (1 + 1)) := Lib.run_next_ascii_at wr kI (⟨#[66, 76, 82, 84]⟩ : ByteArray) 1 0 HK.out (by decide) (by decide)
            rw [show ((76 : UInt8).toNat : Int) = 76 from rfl] at hnx
            have HI2 := Aside0.mk (HST.out F' x1 wr (⟨#[66, 76, 82, 84]⟩ : ByteArray) 1 (1 + 1) kI HI.out HFk.out HK.out HWS.out)
            have HK2 := Aside0.mk (Lib.iterAt_heap wr kI (⟨#[66, 76, 82, 84]⟩ : ByteArray) 1 (1 + 1) HK.out)
            have HT2 := Aside0.mk (HT.out.trans (show SKept F wr (wr.iterAt kI (⟨#[66, 76, 82, 84]⟩ : ByteArray) (1 + 1)) from ⟨by rw [Lib.iterAt_size]; exact Nat.le_refl _, fun k hk => Lib.iterAt_other _ _ _ _ _ (HFF.out k hk).2⟩))
            have hcv : (convert 21 9 (.int .i32 76)).run Try.prog (wr.iterAt kI (⟨#[66, 76, 82, 84]⟩ : ByteArray) (1 + 1)) = .ok (.string (⟨#[76]⟩ : ByteArray)) (wr.iterAt kI (⟨#[66, 76, 82, 84]⟩ : ByteArray) (1 + 1)) := by rfl
            obtain ⟨HA1, HA2⟩ := HA.out
            have hpart : schP (schL n) 0 c s 76 = [] := by unfold schP; simp
            have hrest : rest = (([66, 76, 82, 84] : List UInt8).drop (1 + 1)).foldr (fun ch r => schP (schL n) 0 c s ch ++ r) [] := by rw [HA2]; show schP (schL n) 0 c s 76 ++ _ = _; rw [hpart]; rfl
            have HRE := Aside0.mk hrest
            have HA3 := Aside0.mk HA1
            clear HA HA1 HA2 hpart hrest HI HK HT
            generalize wr.iterAt kI (⟨#[66, 76, 82, 84]⟩ : ByteArray) (1 + 1) = w3 at hnx HI2 HK2 HT2 hcv ⊢
            go_wp2
            go_roundg k1
            case measure => omega
            case rel => exact ⟨1 + 1, rest, x1, ⟨by have := HP.out; omega, by omega⟩, HK2, HI2, HT2, ⟨HA3.out, HRE.out⟩⟩
          · have hnx : (Instr.next (.pointer (some ⟨kI, 0, none⟩)) true 0).run Try.prog wr = .ok (.tuple #[.bool true, .int .i64 (2 : Nat), .int .i32 ((82 : UInt8).toNat : Int)]) (wr.iterAt kI (⟨#[66, 76, 82, 84]⟩ : ByteArray) (2 + 1)) := Lib.run_next_ascii_at wr kI (⟨#[66, 76, 82, 84]⟩ : ByteArray) 2 0 HK.out (by decide) (by decide)
            rw [show ((82 : UInt8).toNat : Int) = 82 from rfl] at hnx
            have HI2 := Aside0.mk (HST.out F' x1 wr (⟨#[66, 76, 82, 84]⟩ : ByteArray) 2 (2 + 1) kI HI.out HFk.out HK.out HWS.out)
            have HK2 := Aside0.mk (Lib.iterAt_heap wr kI (⟨#[66, 76, 82, 84]⟩ : ByteArray) 2 (2 + 1) HK.out)
            have HT2 := Aside0.mk (HT.out.trans (show SKept F wr (wr.iterAt kI (⟨#[66, 76, 82, 84]⟩ : ByteArray) (2 + 1)) from ⟨by rw [Lib.iterAt_size]; exact Nat.le_refl _, fun k hk => Lib.iterAt_other _ _ _ _ _ (HFF.out k hk).2⟩))
            have hcv : (convert 21 9 (.int .i32 82)).run Try.prog (wr.iterAt kI (⟨#[66, 76, 82, 84]⟩ : ByteArray) (2 + 1)) = .ok (.string (⟨#[82]⟩ : ByteArray)) (wr.iterAt kI (⟨#[66, 76, 82, 84]⟩ : ByteArray) (2 + 1)) := by rfl
            obtain ⟨HA1, HA2⟩ := HA.out
            have hpart : schP (schL n) 0 c s 82 = [] := by unfold schP; simp
            have hrest : rest = (([66, 76, 82, 84] : List UInt8).drop (2 + 1)).foldr (fun ch r => schP (schL n) 0 c s ch ++ r) [] := by rw [HA2]; show schP (schL n) 0 c s 82 ++ _ = _; rw [hpart]; rfl
            have HRE := Aside0.mk hrest
            have HA3 := Aside0.mk HA1
            clear HA HA1 HA2 hpart hrest HI HK HT
            generalize wr.iterAt kI (⟨#[66, 76, 82, 84]⟩ : ByteArray) (2 + 1) = w3 at hnx HI2 HK2 HT2 hcv ⊢
            go_wp2
            go_roundg k1
            case measure => omega
            case rel => exact ⟨2 + 1, rest, x1, ⟨by have := HP.out; omega, by omega⟩, HK2, HI2, HT2, ⟨HA3.out, HRE.out⟩⟩
          · have hnx : (Instr.next (.pointer (some ⟨kI, 0, none⟩)) true 0).run Try.prog wr = .ok (.tuple #[.bool true, .int .i64 (3 : Nat), .int .i32 ((84 : UInt8).toNat : Int)]) (wr.iterAt kI (⟨#[66, 76, 82, 84]⟩ : ByteArray) (3 + 1)) := Lib.run_next_ascii_at wr kI (⟨#[66, 76, 82, 84]⟩ : ByteArray) 3 0 HK.out (by decide) (by decide)
            rw [show ((84 : UInt8).toNat : Int) = 84 from rfl] at hnx
            have HI2 := Aside0.mk (HST.out F' x1 wr (⟨#[66, 76, 82, 84]⟩ : ByteArray) 3 (3 + 1) kI HI.out HFk.out HK.out HWS.out)
            have HK2 := Aside0.mk (Lib.iterAt_heap wr kI (⟨#[66, 76, 82, 84]⟩ : ByteArray) 3 (3 + 1) HK.out)
            have HT2 := Aside0.mk (HT.out.trans (show SKept F wr (wr.iterAt kI (⟨#[66, 76, 82, 84]⟩ : ByteArray) (3 + 1)) from ⟨by rw [Lib.iterAt_size]; exact Nat.le_refl _, fun k hk => Lib.iterAt_other _ _ _ _ _ (HFF.out k hk).2⟩))
            have hcv : (convert 21 9 (.int .i32 84)).run Try.prog (wr.iterAt kI (⟨#[66, 76, 82, 84]⟩ : ByteArray) (3 + 1)) = .ok (.string (⟨#[84]⟩ : ByteArray)) (wr.iterAt kI (⟨#[66, 76, 82, 84]⟩ : ByteArray) (3 + 1)) := by rfl
            obtain ⟨HA1, HA2⟩ := HA.out
            have hpart : schP (schL n) 0 c s 84 = schL n 0 (c - 1) (s ++ (⟨#[84]⟩ : ByteArray)) := by unfold schP; simp [HCc.out]
            have hrest : rest = schL n 0 (c - 1) (s ++ (⟨#[84]⟩ : ByteArray)) ++ (([66, 76, 82, 84] : List UInt8).drop (3 + 1)).foldr (fun ch r => schP (schL n) 0 c s ch ++ r) [] := by rw [← hpart]; exact HA2
            rw [hrest, runL_append] at HA1
            obtain ⟨⟨b1, x2⟩, hr1, hr2⟩ := Option.bind_eq_some_iff.1 HA1
            have HR1 := Aside0.mk hr1
            have HR2 := Aside0.mk hr2
            clear HA HA1 HA2 hpart hrest HI HK HT hr1 hr2
            generalize wr.iterAt kI (⟨#[66, 76, 82, 84]⟩ : ByteArray) (3 + 1) = w3 at hnx HI2 HK2 HT2 hcv ⊢
            cases b1 with
            | true =>
              have h2 := HR2.out
              rw [if_pos rfl] at h2
              injection h2 with h2
              injection h2 with h2 h3
              subst h2 h3
              clear HR2
              go_wp2_with (go_at_call 22; ( refine (HIH.out 0 (c - 1) (s ++ (⟨#[84]⟩ : ByteArray)) x1 x2 true F' _ ?z0 ?z1 HI2.out HR1.out).mono ?_); (case z0 => have := HC.out; omega); (case z1 => have := HS.out; rw [ByteArray.size_append]; show s.size + 1 + n ≤ 100; omega); rintro e w4 ⟨rfl, hI4, hk4⟩; have HI4 := Aside0.mk hI4; have HK4 := Aside0.mk hk4; clear hI4 hk4)
              go_ret
              exact ⟨rfl, HLE.out _ _ _ _ HI4.out (fun k hk => (HFF.out k hk).1), HT2.out.trans (HK4.out.sub (fun k hk => (HFF.out k hk).1))⟩
            | false =>
              have h2 := HR2.out
              rw [if_neg (by simp)] at h2
              have HR3 := Aside0.mk h2
              clear HR2 h2
              go_wp2_with (go_at_call 22; ( refine (HIH.out 0 (c - 1) (s ++ (⟨#[84]⟩ : ByteArray)) x1 x2 false F' _ ?z0 ?z1 HI2.out HR1.out).mono ?_); (case z0 => have := HC.out; omega); (case z1 => have := HS.out; rw [ByteArray.size_append]; show s.size + 1 + n ≤ 100; omega); rintro e w4 ⟨rfl, hI4, hk4⟩; have HI4 := Aside0.mk hI4; have HK4 := Aside0.mk hk4; clear hI4 hk4)
              go_roundg k1
              case measure => omega
              case rel => exact ⟨3 + 1, _, x2, ⟨by have := HP.out; omega, by omega⟩, ⟨(HK4.out.2 kI HFk.out).trans HK2.out⟩, HI4, ⟨HT2.out.trans (HK4.out.sub (fun k hk => (HFF.out k hk).1))⟩, ⟨HR3.out, rfl⟩⟩
          · have hnx : (Instr.next (.pointer (some ⟨kI, 0, none⟩)) true 0).run Try.prog wr = .ok (.tuple #[.bool false]) wr := Lib.run_next_end_at wr kI (⟨#[66, 76, 82, 84]⟩ : ByteArray) 4 0 HK.out (by decide)
            obtain ⟨HA1, HA2⟩ := HA.out
            have hnil : rest = [] := HA2
            rw [hnil, runL] at HA1
            injection HA1 with HA1
            injection HA1 with h2 h3
            subst h2 h3
            clear HA HA2 hnil
            go_wp2
            go_ret
            exact ⟨rfl, HLE.out _ _ _ _ HI.out (fun k hk => (HFF.out k hk).1), HT.out⟩
    · rcases c with _ | c
      · skip
        have na : (((a + 1 : Nat) : Int) == 0) = false := by rw [beq_eq_false_iff_ne]; omega
        have na2 : (((a : Nat) : Int) + 1 == 0) = false := by rw [beq_eq_false_iff_ne]; omega
        have ga : decide (((a + 1 : Nat) : Int) > 0) = true := decide_eq_true (by omega)
        have ga2 : decide (((a : Nat) : Int) + 1 > 0) = true := decide_eq_true (by omega)
        have p1 : wrap64 (((a + 1 : Nat) : Int) - 1) = (a : Int) := by have := HC.out; have := HS.out; unfold wrap64; omega
        have p2 : IntKind.i64.wrap (((a + 1 : Nat) : Int) - 1) = (a : Int) := (i64_w _).trans p1
        have p3 : wrap64 ((a : Int) + 1 - 1) = (a : Int) := by have := HC.out; have := HS.out; unfold wrap64; omega
        have p4 : wrap64 (a : Int) = (a : Int) := by have := HC.out; have := HS.out; unfold wrap64; omega
        go_enter Try.func22, Try.ntmps22
        go_wp2
        change Code.wp _ _ _ _ (W.alloc (.stringIter (⟨#[66, 76, 82, 84]⟩ : ByteArray) 0))
        have I1 := Aside0.mk i1
        have I2 := Aside0.mk i2
        have I3 := Aside0.mk i3
        clear i1 i2 i3
        generalize W.alloc (.stringIter (⟨#[66, 76, 82, 84]⟩ : ByteArray) 0) = w0 at I1 I2 I3 ⊢
        obtain ⟨kI, hkI⟩ : ∃ kI : Nat, W.heap.size = kI := ⟨_, rfl⟩
        obtain ⟨F', hF'⟩ : ∃ F' : Nat → Prop, (fun k => F k ∨ k = kI) = F' := ⟨_, rfl⟩
        have HFk := Aside0.mk (show F' kI by rw [← hF']; exact .inr rfl)
        have HFF := Aside0.mk (show ∀ k, F k → F' k ∧ k ≠ kI by rw [← hF']; exact fun k hk => ⟨.inl hk, fun e => by have := HFS.out k hk; omega⟩)
        rw [hkI] at I1 I2 HWS ⊢
        rw [hF'] at I1
        clear hkI hF' HFS
        go_loopg [] 5 (fun kq W' => ∃ (p : Nat) (rest : List ByteArray) (x1 : σ), Aside0 (p + kq = 5 ∧ p ≤ 4) ∧ Aside0 (W'.heap[kI]? = some (.stringIter (⟨#[66, 76, 82, 84]⟩ : ByteArray) p)) ∧ Aside0 (Inv F' x1 W') ∧ Aside0 (SKept F W W') ∧ Aside0 (runL stp rest x1 = some (b, y) ∧ rest = (([66, 76, 82, 84] : List UInt8).drop p).foldr (fun ch r => schP (schL n) (a + 1) 0 s ch ++ r) []))
        case atStart => exact ⟨0, _, x, ⟨by omega, by omega⟩, I2, I1, I3, ⟨by have h := HR.out; rw [schL] at h; exact h, rfl⟩⟩
        case round =>
          clear I1 I2 I3 HR
          obtain ⟨p, rest, x1, HP, HK, HI, HT, HA⟩ := hrel
          have hp := HP.out
          cases gk with
          | zero => exact absurd HP.out (fun h => by omega)
          | succ k1 =>
            have hpc : p = 0 ∨ p = 1 ∨ p = 2 ∨ p = 3 ∨ p = 4 := by omega
            clear hp
            rcases hpc with rfl | rfl | rfl | rfl | rfl
            · have hnx : (Instr.next (.pointer (some ⟨kI, 0, none⟩)) true 0).run Try.prog wr = .ok (.tuple #[.bool true, .int .i64 (0 : Nat), .int .i32 ((66 : UInt8).toNat : Int)]) (wr.iterAt kI (⟨#[66, 76, 82, 84]⟩ : ByteArray) (0 + 1)) := Lib.run_next_ascii_at wr kI (⟨#[66, 76, 82, 84]⟩ : ByteArray) 0 0 HK.out (by decide) (by decide)
              rw [show ((66 : UInt8).toNat : Int) = 66 from rfl] at hnx
              have HI2 := Aside0.mk (HST.out F' x1 wr (⟨#[66, 76, 82, 84]⟩ : ByteArray) 0 (0 + 1) kI HI.out HFk.out HK.out HWS.out)
              have HK2 := Aside0.mk (Lib.iterAt_heap wr kI (⟨#[66, 76, 82, 84]⟩ : ByteArray) 0 (0 + 1) HK.out)
              have HT2 := Aside0.mk (HT.out.trans (show SKept F wr (wr.iterAt kI (⟨#[66, 76, 82, 84]⟩ : ByteArray) (0 + 1)) from ⟨by rw [Lib.iterAt_size]; exact Nat.le_refl _, fun k hk => Lib.iterAt_other _ _ _ _ _ (HFF.out k hk).2⟩))
              have hcv : (convert 21 9 (.int .i32 66)).run Try.prog (wr.iterAt kI (⟨#[66, 76, 82, 84]⟩ : ByteArray) (0 + 1)) = .ok (.string (⟨#[66]⟩ : ByteArray)) (wr.iterAt kI (⟨#[66, 76, 82, 84]⟩ : ByteArray) (0 + 1)) := by rfl
              obtain ⟨HA1, HA2⟩ := HA.out
              have hpart : schP (schL n) (a + 1) 0 s 66 = [] := by unfold schP; simp
              have hrest : rest = (([66, 76, 82, 84] : List UInt8).drop (0 + 1)).foldr (fun ch r => schP (schL n) (a + 1) 0 s ch ++ r) [] := by rw [HA2]; show schP (schL n) (a + 1) 0 s 66 ++ _ = _; rw [hpart]; rfl
              have HRE := Aside0.mk hrest
              have HA3 := Aside0.mk HA1
              clear HA HA1 HA2 hpart hrest HI HK HT
              generalize wr.iterAt kI (⟨#[66, 76, 82, 84]⟩ : ByteArray) (0 + 1) = w3 at hnx HI2 HK2 HT2 hcv ⊢
              go_wp2
              go_roundg k1
              case measure => omega
              case rel => exact ⟨0 + 1, rest, x1, ⟨by have := HP.out; omega, by omega⟩, HK2, HI2, HT2, ⟨HA3.out, HRE.out⟩⟩
            · have hnx : (Instr.next (.pointer (some ⟨kI, 0, none⟩)) true 0).run Try.prog wr = .ok (.tuple #[.bool true, .int .i64 (1 : Nat), .int .i32 ((76 : UInt8).toNat : Int)]) (wr.iterAt kI (⟨#[66, 76, 82, 84]⟩ : ByteArray) (1 + 1)) := Lib.run_next_ascii_at wr kI (⟨#[66, 76, 82, 84]⟩ : ByteArray) 1 0 HK.out (by decide) (by decide)
              rw [show ((76 : UInt8).toNat : Int) = 76 from rfl] at hnx
              have HI2 := Aside0.mk (HST.out F' x1 wr (⟨#[66, 76, 82, 84]⟩ : ByteArray) 1 (1 + 1) kI HI.out HFk.out HK.out HWS.out)
              have HK2 := Aside0.mk (Lib.iterAt_heap wr kI (⟨#[66, 76, 82, 84]⟩ : ByteArray) 1 (1 + 1) HK.out)
              have HT2 := Aside0.mk (HT.out.trans (show SKept F wr (wr.iterAt kI (⟨#[66, 76, 82, 84]⟩ : ByteArray) (1 + 1)) from ⟨by rw [Lib.iterAt_size]; exact Nat.le_refl _, fun k hk => Lib.iterAt_other _ _ _ _ _ (HFF.out k hk).2⟩))
              have hcv : (convert 21 9 (.int .i32 76)).run Try.prog (wr.iterAt kI (⟨#[66, 76, 82, 84]⟩ : ByteArray) (1 + 1)) = .ok (.string (⟨#[76]⟩ : ByteArray)) (wr.iterAt kI (⟨#[66, 76, 82, 84]⟩ : ByteArray) (1 + 1)) := by rfl
              obtain ⟨HA1, HA2⟩ := HA.out
              have hpart : schP (schL n) (a + 1) 0 s 76 = schL n a 0 (s ++ (⟨#[76]⟩ : ByteArray)) := by unfold schP; simp
              have hrest : rest = schL n a 0 (s ++ (⟨#[76]⟩ : ByteArray)) ++ (([66, 76, 82, 84] : List UInt8).drop (1 + 1)).foldr (fun ch r => schP (schL n) (a + 1) 0 s ch ++ r) [] := by rw [← hpart]; exact HA2
              rw [hrest, runL_append] at HA1
              obtain ⟨⟨b1, x2⟩, hr1, hr2⟩ := Option.bind_eq_some_iff.1 HA1
              have HR1 := Aside0.mk hr1
              have HR2 := Aside0.mk hr2
              clear HA HA1 HA2 hpart hrest HI HK HT hr1 hr2
              generalize wr.iterAt kI (⟨#[66, 76, 82, 84]⟩ : ByteArray) (1 + 1) = w3 at hnx HI2 HK2 HT2 hcv ⊢
              cases b1 with
              | true =>
                have h2 := HR2.out
                rw [if_pos rfl] at h2
                injection h2 with h2
                injection h2 with h2 h3
                subst h2 h3
                clear HR2
                go_wp2_with (go_at_call 22; ( refine (HIH.out a 0 (s ++ (⟨#[76]⟩ : ByteArray)) x1 x2 true F' _ ?z0 ?z1 HI2.out HR1.out).mono ?_); (case z0 => have := HC.out; omega); (case z1 => have := HS.out; rw [ByteArray.size_append]; show s.size + 1 + n ≤ 100; omega); rintro e w4 ⟨rfl, hI4, hk4⟩; have HI4 := Aside0.mk hI4; have HK4 := Aside0.mk hk4; clear hI4 hk4)
                go_ret
                exact ⟨rfl, HLE.out _ _ _ _ HI4.out (fun k hk => (HFF.out k hk).1), HT2.out.trans (HK4.out.sub (fun k hk => (HFF.out k hk).1))⟩
              | false =>
                have h2 := HR2.out
                rw [if_neg (by simp)] at h2
                have HR3 := Aside0.mk h2
                clear HR2 h2
                go_wp2_with (go_at_call 22; ( refine (HIH.out a 0 (s ++ (⟨#[76]⟩ : ByteArray)) x1 x2 false F' _ ?z0 ?z1 HI2.out HR1.out).mono ?_); (case z0 => have := HC.out; omega); (case z1 => have := HS.out; rw [ByteArray.size_append]; show s.size + 1 + n ≤ 100; omega); rintro e w4 ⟨rfl, hI4, hk4⟩; have HI4 := Aside0.mk hI4; have HK4 := Aside0.mk hk4; clear hI4 hk4)
                go_roundg k1
                case measure => omega
                case rel => exact ⟨1 + 1, _, x2, ⟨by have := HP.out; omega, by omega⟩, ⟨(HK4.out.2 kI HFk.out).trans HK2.out⟩, HI4, ⟨HT2.out.trans (HK4.out.sub (fun k hk => (HFF.out k hk).1))⟩, ⟨HR3.out, rfl⟩⟩
            · have hnx : (Instr.next (.pointer (some ⟨kI, 0, none⟩)) true 0).run Try.prog wr = .ok (.tuple #[.bool true, .int .i64 (2 : Nat), .int .i32 ((82 : UInt8).toNat : Int)]) (wr.iterAt kI (⟨#[66, 76, 82, 84]⟩ : ByteArray) (2 + 1)) := Lib.run_next_ascii_at wr kI (⟨#[66, 76, 82, 84]⟩ : ByteArray) 2 0 HK.out (by decide) (by decide)
              rw [show ((82 : UInt8).toNat : Int) = 82 from rfl] at hnx
              have HI2 := Aside0.mk (HST.out F' x1 wr (⟨#[66, 76, 82, 84]⟩ : ByteArray) 2 (2 + 1) kI HI.out HFk.out HK.out HWS.out)
              have HK2 := Aside0.mk (Lib.iterAt_heap wr kI (⟨#[66, 76, 82, 84]⟩ : ByteArray) 2 (2 + 1) HK.out)
              have HT2 := Aside0.mk (HT.out.trans (show SKept F wr (wr.iterAt kI (⟨#[66, 76, 82, 84]⟩ : ByteArray) (2 + 1)) from ⟨by rw [Lib.iterAt_size]; exact Nat.le_refl _, fun k hk => Lib.iterAt_other _ _ _ _ _ (HFF.out k hk).2⟩))
              have hcv : (convert 21 9 (.int .i32 82)).run Try.prog (wr.iterAt kI (⟨#[66, 76, 82, 84]⟩ : ByteArray) (2 + 1)) = .ok (.string (⟨#[82]⟩ : ByteArray)) (wr.iterAt kI (⟨#[66, 76, 82, 84]⟩ : ByteArray) (2 + 1)) := by rfl
              obtain ⟨HA1, HA2⟩ := HA.out
              have hpart : schP (schL n) (a + 1) 0 s 82 = schL n a 0 (s ++ (⟨#[82]⟩ : ByteArray)) := by unfold schP; simp
              have hrest : rest = schL n a 0 (s ++ (⟨#[82]⟩ : ByteArray)) ++ (([66, 76, 82, 84] : List UInt8).drop (2 + 1)).foldr (fun ch r => schP (schL n) (a + 1) 0 s ch ++ r) [] := by rw [← hpart]; exact HA2
              rw [hrest, runL_append] at HA1
              obtain ⟨⟨b1, x2⟩, hr1, hr2⟩ := Option.bind_eq_some_iff.1 HA1
              have HR1 := Aside0.mk hr1
              have HR2 := Aside0.mk hr2
              clear HA HA1 HA2 hpart hrest HI HK HT hr1 hr2
              generalize wr.iterAt kI (⟨#[66, 76, 82, 84]⟩ : ByteArray) (2 + 1) = w3 at hnx HI2 HK2 HT2 hcv ⊢
              cases b1 with
              | true =>
                have h2 := HR2.out
                rw [if_pos rfl] at h2
                injection h2 with h2
                injection h2 with h2 h3
                subst h2 h3
                clear HR2
                go_wp2_with (go_at_call 22; ( refine (HIH.out a 0 (s ++ (⟨#[82]⟩ : ByteArray)) x1 x2 true F' _ ?z0 ?z1 HI2.out HR1.out).mono ?_); (case z0 => have := HC.out; omega); (case z1 => have := HS.out; rw [ByteArray.size_append]; show s.size + 1 + n ≤ 100; omega); rintro e w4 ⟨rfl, hI4, hk4⟩; have HI4 := Aside0.mk hI4; have HK4 := Aside0.mk hk4; clear hI4 hk4)
                go_ret
                exact ⟨rfl, HLE.out _ _ _ _ HI4.out (fun k hk => (HFF.out k hk).1), HT2.out.trans (HK4.out.sub (fun k hk => (HFF.out k hk).1))⟩
              | false =>
                have h2 := HR2.out
                rw [if_neg (by simp)] at h2
                have HR3 := Aside0.mk h2
                clear HR2 h2
                go_wp2_with (go_at_call 22; ( refine (HIH.out a 0 (s ++ (⟨#[82]⟩ : ByteArray)) x1 x2 false F' _ ?z0 ?z1 HI2.out HR1.out).mono ?_); (case z0 => have := HC.out; omega); (case z1 => have := HS.out; rw [ByteArray.size_append]; show s.size + 1 + n ≤ 100; omega); rintro e w4 ⟨rfl, hI4, hk4⟩; have HI4 := Aside0.mk hI4; have HK4 := Aside0.mk hk4; clear hI4 hk4)
                go_roundg k1
                case measure => omega
                case rel => exact ⟨2 + 1, _, x2, ⟨by have := HP.out; omega, by omega⟩, ⟨(HK4.out.2 kI HFk.out).trans HK2.out⟩, HI4, ⟨HT2.out.trans (HK4.out.sub (fun k hk => (HFF.out k hk).1))⟩, ⟨HR3.out, rfl⟩⟩
            · have hnx : (Instr.next (.pointer (some ⟨kI, 0, none⟩)) true 0).run Try.prog wr = .ok (.tuple #[.bool true, .int .i64 (3 : Nat), .int .i32 ((84 : UInt8).toNat : Int)]) (wr.iterAt kI (⟨#[66, 76, 82, 84]⟩ : ByteArray) (3 + 1)) := Lib.run_next_ascii_at wr kI (⟨#[66, 76, 82, 84]⟩ : ByteArray) 3 0 HK.out (by decide) (by decide)
              rw [show ((84 : UInt8).toNat : Int) = 84 from rfl] at hnx
              have HI2 := Aside0.mk (HST.out F' x1 wr (⟨#[66, 76, 82, 84]⟩ : ByteArray) 3 (3 + 1) kI HI.out HFk.out HK.out HWS.out)
              have HK2 := Aside0.mk (Lib.iterAt_heap wr kI (⟨#[66, 76, 82, 84]⟩ : ByteArray) 3 (3 + 1) HK.out)
              have HT2 := Aside0.mk (HT.out.trans (show SKept F wr (wr.iterAt kI (⟨#[66, 76, 82, 84]⟩ : ByteArray) (3 + 1)) from ⟨by rw [Lib.iterAt_size]; exact Nat.le_refl _, fun k hk => Lib.iterAt_other _ _ _ _ _ (HFF.out k hk).2⟩))
              have hcv : (convert 21 9 (.int .i32 84)).run Try.prog (wr.iterAt kI (⟨#[66, 76, 82, 84]⟩ : ByteArray) (3 + 1)) = .ok (.string (⟨#[84]⟩ : ByteArray)) (wr.iterAt kI (⟨#[66, 76, 82, 84]⟩ : ByteArray) (3 + 1)) := by rfl
              obtain ⟨HA1, HA2⟩ := HA.out
              have hpart : schP (schL n) (a + 1) 0 s 84 = [] := by unfold schP; simp
              have hrest : rest = (([66, 76, 82, 84] : List UInt8).drop (3 + 1)).foldr (fun ch r => schP (schL n) (a + 1) 0 s ch ++ r) [] := by rw [HA2]; show schP (schL n) (a + 1) 0 s 84 ++ _ = _; rw [hpart]; rfl
              have HRE := Aside0.mk hrest
              have HA3 := Aside0.mk HA1
              clear HA HA1 HA2 hpart hrest HI HK HT
              generalize wr.iterAt kI (⟨#[66, 76, 82, 84]⟩ : ByteArray) (3 + 1) = w3 at hnx HI2 HK2 HT2 hcv ⊢
              go_wp2
              go_roundg k1
              case measure => omega
              case rel => exact ⟨3 + 1, rest, x1, ⟨by have := HP.out; omega, by omega⟩, HK2, HI2, HT2, ⟨HA3.out, HRE.out⟩⟩
            · have hnx : (Instr.next (.pointer (some ⟨kI, 0, none⟩)) true 0).run Try.prog wr = .ok (.tuple #[.bool false]) wr := Lib.run_next_end_at wr kI (⟨#[66, 76, 82, 84]⟩ : ByteArray) 4 0 HK.out (by decide)
              obtain ⟨HA1, HA2⟩ := HA.out
              have hnil : rest = [] := HA2
              rw [hnil, runL] at HA1
              injection HA1 with HA1
              injection HA1 with h2 h3
              subst h2 h3
              clear HA HA2 hnil
              go_wp2
              go_ret
              exact ⟨rfl, HLE.out _ _ _ _ HI.out (fun k hk => (HFF.out k hk).1), HT.out⟩
      · skip
        have na : (((a + 1 : Nat) : Int) == 0) = false := by rw [beq_eq_false_iff_ne]; omega
        have na2 : (((a : Nat) : Int) + 1 == 0) = false := by rw [beq_eq_false_iff_ne]; omega
        have ga : decide (((a + 1 : Nat) : Int) > 0) = true := decide_eq_true (by omega)
        have ga2 : decide (((a : Nat) : Int) + 1 > 0) = true := decide_eq_true (by omega)
        have p1 : wrap64 (((a + 1 : Nat) : Int) - 1) = (a : Int) := by have := HC.out; have := HS.out; unfold wrap64; omega
        have p2 : IntKind.i64.wrap (((a + 1 : Nat) : Int) - 1) = (a : Int) := (i64_w _).trans p1
        have p3 : wrap64 ((a : Int) + 1 - 1) = (a : Int) := by have := HC.out; have := HS.out; unfold wrap64; omega
        have p4 : wrap64 (a : Int) = (a : Int) := by have := HC.out; have := HS.out; unfold wrap64; omega
        have gc : decide (((c + 1 : Nat) : Int) > 0) = true := decide_eq_true (by omega)
        have gc2 : decide (((c : Nat) : Int) + 1 > 0) = true := decide_eq_true (by omega)
        have m1 : wrap64 (((c + 1 : Nat) : Int) - 1) = (c : Int) := by have := HC.out; have := HS.out; unfold wrap64; omega
        have m2 : IntKind.i64.wrap (((c + 1 : Nat) : Int) - 1) = (c : Int) := (i64_w _).trans m1
        have m3 : wrap64 ((c : Int) + 1 - 1) = (c : Int) := by have := HC.out; have := HS.out; unfold wrap64; omega
        have m4 : wrap64 (c : Int) = (c : Int) := by have := HC.out; have := HS.out; unfold wrap64; omega
        go_enter Try.func22, Try.ntmps22
        go_wp2
        change Code.wp _ _ _ _ (W.alloc (.stringIter (⟨#[66, 76, 82, 84]⟩ : ByteArray) 0))
        have I1 := Aside0.mk i1
        have I2 := Aside0.mk i2
        have I3 := Aside0.mk i3
        clear i1 i2 i3
        generalize W.alloc (.stringIter (⟨#[66, 76, 82, 84]⟩ : ByteArray) 0) = w0 at I1 I2 I3 ⊢
        obtain ⟨kI, hkI⟩ : ∃ kI : Nat, W.heap.size = kI := ⟨_, rfl⟩
        obtain ⟨F', hF'⟩ : ∃ F' : Nat → Prop, (fun k => F k ∨ k = kI) = F' := ⟨_, rfl⟩
        have HFk := Aside0.mk (show F' kI by rw [← hF']; exact .inr rfl)
        have HFF := Aside0.mk (show ∀ k, F k → F' k ∧ k ≠ kI by rw [← hF']; exact fun k hk => ⟨.inl hk, fun e => by have := HFS.out k hk; omega⟩)
        rw [hkI] at I1 I2 HWS ⊢
        rw [hF'] at I1
        clear hkI hF' HFS
        go_loopg [] 5 (fun kq W' => ∃ (p : Nat) (rest : List ByteArray) (x1 : σ), Aside0 (p + kq = 5 ∧ p ≤ 4) ∧ Aside0 (W'.heap[kI]? = some (.stringIter (⟨#[66, 76, 82, 84]⟩ : ByteArray) p)) ∧ Aside0 (Inv F' x1 W') ∧ Aside0 (SKept F W W') ∧ Aside0 (runL stp rest x1 = some (b, y) ∧ rest = (([66, 76, 82, 84] : List UInt8).drop p).foldr (fun ch r => schP (schL n) (a + 1) (c + 1) s ch ++ r) []))
        case atStart => exact ⟨0, _, x, ⟨by omega, by omega⟩, I2, I1, I3, ⟨by have h := HR.out; rw [schL] at h; exact h, rfl⟩⟩
        case round =>
          clear I1 I2 I3 HR
          obtain ⟨p, rest, x1, HP, HK, HI, HT, HA⟩ := hrel
          have hp := HP.out
          cases gk with
          | zero => exact absurd HP.out (fun h => by omega)
          | succ k1 =>
            have hpc : p = 0 ∨ p = 1 ∨ p = 2 ∨ p = 3 ∨ p = 4 := by omega
            clear hp
            rcases hpc with rfl | rfl | rfl | rfl | rfl
            · have hnx : (Instr.next (.pointer (some ⟨kI, 0, none⟩)) true 0).run Try.prog wr = .ok (.tuple #[.bool true, .int .i64 (0 : Nat), .int .i32 ((66 : UInt8).toNat : Int)]) (wr.iterAt kI (⟨#[66, 76, 82, 84]⟩ : ByteArray) (0 + 1)) := Lib.run_next_ascii_at wr kI (⟨#[66, 76, 82, 84]⟩ : ByteArray) 0 0 HK.out (by decide) (by decide)
              rw [show ((66 : UInt8).toNat : Int) = 66 from rfl] at hnx
              have HI2 := Aside0.mk (HST.out F' x1 wr (⟨#[66, 76, 82, 84]⟩ : ByteArray) 0 (0 + 1) kI HI.out HFk.out HK.out HWS.out)
              have HK2 := Aside0.mk (Lib.iterAt_heap wr kI (⟨#[66, 76, 82, 84]⟩ : ByteArray) 0 (0 + 1) HK.out)
              have HT2 := Aside0.mk (HT.out.trans (show SKept F wr (wr.iterAt kI (⟨#[66, 76, 82, 84]⟩ : ByteArray) (0 + 1)) from ⟨by rw [Lib.iterAt_size]; exact Nat.le_refl _, fun k hk => Lib.iterAt_other _ _ _ _ _ (HFF.out k hk).2⟩))
              have hcv : (convert 21 9 (.int .i32 66)).run Try.prog (wr.iterAt kI (⟨#[66, 76, 82, 84]⟩ : ByteArray) (0 + 1)) = .ok (.string (⟨#[66]⟩ : ByteArray)) (wr.iterAt kI (⟨#[66, 76, 82, 84]⟩ : ByteArray) (0 + 1)) := by rfl
              obtain ⟨HA1, HA2⟩ := HA.out
              have hpart : schP (schL n) (a + 1) (c + 1) s 66 = schL n (a + 1) c (s ++ (⟨#[66]⟩ : ByteArray)) := by unfold schP; simp
              have hrest : rest = schL n (a + 1) c (s ++ (⟨#[66]⟩ : ByteArray)) ++ (([66, 76, 82, 84] : List UInt8).drop (0 + 1)).foldr (fun ch r => schP (schL n) (a + 1) (c + 1) s ch ++ r) [] := by rw [← hpart]; exact HA2
              rw [hrest, runL_append] at HA1
              obtain ⟨⟨b1, x2⟩, hr1, hr2⟩ := Option.bind_eq_some_iff.1 HA1
              have HR1 := Aside0.mk hr1
              have HR2 := Aside0.mk hr2
              clear HA HA1 HA2 hpart hrest HI HK HT hr1 hr2
              generalize wr.iterAt kI (⟨#[66, 76, 82, 84]⟩ : ByteArray) (0 + 1) = w3 at hnx HI2 HK2 HT2 hcv ⊢
              cases b1 with
              | true =>
                have h2 := HR2.out
                rw [if_pos rfl] at h2
                injection h2 with h2
                injection h2 with h2 h3
                subst h2 h3
                clear HR2
                go_wp2_with (go_at_call 22; ( refine (HIH.out (a + 1) c (s ++ (⟨#[66]⟩ : ByteArray)) x1 x2 true F' _ ?z0 ?z1 HI2.out HR1.out).mono ?_); (case z0 => have := HC.out; omega); (case z1 => have := HS.out; rw [ByteArray.size_append]; show s.size + 1 + n ≤ 100; omega); rintro e w4 ⟨rfl, hI4, hk4⟩; have HI4 := Aside0.mk hI4; have HK4 := Aside0.mk hk4; clear hI4 hk4)
                go_ret
                exact ⟨rfl, HLE.out _ _ _ _ HI4.out (fun k hk => (HFF.out k hk).1), HT2.out.trans (HK4.out.sub (fun k hk => (HFF.out k hk).1))⟩
              | false =>
                have h2 := HR2.out
                rw [if_neg (by simp)] at h2
                have HR3 := Aside0.mk h2
                clear HR2 h2
                go_wp2_with (go_at_call 22; ( refine (HIH.out (a + 1) c (s ++ (⟨#[66]⟩ : ByteArray)) x1 x2 false F' _ ?z0 ?z1 HI2.out HR1.out).mono ?_); (case z0 => have := HC.out; omega); (case z1 => have := HS.out; rw [ByteArray.size_append]; show s.size + 1 + n ≤ 100; omega); rintro e w4 ⟨rfl, hI4, hk4⟩; have HI4 := Aside0.mk hI4; have HK4 := Aside0.mk hk4; clear hI4 hk4)
                go_roundg k1
                case measure => omega
                case rel => exact ⟨0 + 1, _, x2, ⟨by have := HP.out; omega, by omega⟩, ⟨(HK4.out.2 kI HFk.out).trans HK2.out⟩, HI4, ⟨HT2.out.trans (HK4.out.sub (fun k hk => (HFF.out k hk).1))⟩, ⟨HR3.out, rfl⟩⟩
            · have hnx : (Instr.next (.pointer (some ⟨kI, 0, none⟩)) true 0).run Try.prog wr = .ok (.tuple #[.bool true, .int .i64 (1 : Nat), .int .i32 ((76 : UInt8).toNat : Int)]) (wr.iterAt kI (⟨#[66, 76, 82, 84]⟩ : ByteArray) (1 + 1)) := Lib.run_next_ascii_at wr kI (⟨#[66, 76, 82, 84]⟩ : ByteArray) 1 0 HK.out (by decide) (by decide)
              rw [show ((76 : UInt8).toNat : Int) = 76 from rfl] at hnx
              have HI2 := Aside0.mk (HST.out F' x1 wr (⟨#[66, 76, 82, 84]⟩ : ByteArray) 1 (1 + 1) kI HI.out HFk.out HK.out HWS.out)
              have HK2 := Aside0.mk (Lib.iterAt_heap wr kI (⟨#[66, 76, 82, 84]⟩ : ByteArray) 1 (1 + 1) HK.out)
              have HT2 := Aside0.mk (HT.out.trans (show SKept F wr (wr.iterAt kI (⟨#[66, 76, 82, 84]⟩ : ByteArray) (1 + 1)) from ⟨by rw [Lib.iterAt_size]; exact Nat.le_refl _, fun k hk => Lib.iterAt_other _ _ _ _ _ (HFF.out k hk).2⟩))
              have hcv : (convert 21 9 (.int .i32 76)).run Try.prog (wr.iterAt kI (⟨#[66, 76, 82, 84]⟩ : ByteArray) (1 + 1)) = .ok (.string (⟨#[76]⟩ : ByteArray)) (wr.iterAt kI (⟨#[66, 76, 82, 84]⟩ : ByteArray) (1 + 1)) := by rfl
              obtain ⟨HA1, HA2⟩ := HA.out
              have hpart : schP (schL n) (a + 1) (c + 1) s 76 = schL n a (c + 1) (s ++ (⟨#[76]⟩ : ByteArray)) := by unfold schP; simp
              have hrest : rest = schL n a (c + 1) (s ++ (⟨#[76]⟩ : ByteArray)) ++ (([66, 76, 82, 84] : List UInt8).drop (1 + 1)).foldr (fun ch r => schP (schL n) (a + 1) (c + 1) s ch ++ r) [] := by rw [← hpart]; exact HA2
              rw [hrest, runL_append] at HA1
              obtain ⟨⟨b1, x2⟩, hr1, hr2⟩ := Option.bind_eq_some_iff.1 HA1
              have HR1 := Aside0.mk hr1
              have HR2 := Aside0.mk hr2
              clear HA HA1 HA2 hpart hrest HI HK HT hr1 hr2
              generalize wr.iterAt kI (⟨#[66, 76, 82, 84]⟩ : ByteArray) (1 + 1) = w3 at hnx HI2 HK2 HT2 hcv ⊢
              cases b1 with
              | true =>
                have h2 := HR2.out
                rw [if_pos rfl] at h2
                injection h2 with h2
                injection h2 with h2 h3
                subst h2 h3
                clear HR2
                go_wp2_with (go_at_call 22; ( refine (HIH.out a (c + 1) (s ++ (⟨#[76]⟩ : ByteArray)) x1 x2 true F' _ ?z0 ?z1 HI2.out HR1.out).mono ?_); (case z0 => have := HC.out; omega); (case z1 => have := HS.out; rw [ByteArray.size_append]; show s.size + 1 + n ≤ 100; omega); rintro e w4 ⟨rfl, hI4, hk4⟩; have HI4 := Aside0.mk hI4; have HK4 := Aside0.mk hk4; clear hI4 hk4)
                go_ret
                exact ⟨rfl, HLE.out _ _ _ _ HI4.out (fun k hk => (HFF.out k hk).1), HT2.out.trans (HK4.out.sub (fun k hk => (HFF.out k hk).1))⟩
              | false =>
                have h2 := HR2.out
                rw [if_neg (by simp)] at h2
                have HR3 := Aside0.mk h2
                clear HR2 h2
                go_wp2_with (go_at_call 22; ( refine (HIH.out a (c + 1) (s ++ (⟨#[76]⟩ : ByteArray)) x1 x2 false F' _ ?z0 ?z1 HI2.out HR1.out).mono ?_); (case z0 => have := HC.out; omega); (case z1 => have := HS.out; rw [ByteArray.size_append]; show s.size + 1 + n ≤ 100; omega); rintro e w4 ⟨rfl, hI4, hk4⟩; have HI4 := Aside0.mk hI4; have HK4 := Aside0.mk hk4; clear hI4 hk4)
                go_roundg k1
                case measure => omega
                case rel => exact ⟨1 + 1, _, x2, ⟨by have := HP.out; omega, by omega⟩, ⟨(HK4.out.2 kI HFk.out).trans HK2.out⟩, HI4, ⟨HT2.out.trans (HK4.out.sub (fun k hk => (HFF.out k hk).1))⟩, ⟨HR3.out, rfl⟩⟩
            · have hnx : (Instr.next (.pointer (some ⟨kI, 0, none⟩)) true 0).run Try.prog wr = .ok (.tuple #[.bool true, .int .i64 (2 : Nat), .int .i32 ((82 : UInt8).toNat : Int)]) (wr.iterAt kI (⟨#[66, 76, 82, 84]⟩ : ByteArray) (2 + 1)) := Lib.run_next_ascii_at wr kI (⟨#[66, 76, 82, 84]⟩ : ByteArray) 2 0 HK.out (by decide) (by decide)
              rw [show ((82 : UInt8).toNat : Int) = 82 from rfl] at hnx
              have HI2 := Aside0.mk (HST.out F' x1 wr (⟨#[66, 76, 82, 84]⟩ : ByteArray) 2 (2 + 1) kI HI.out HFk.out HK.out HWS.out)
              have HK2 := Aside0.mk (Lib.iterAt_heap wr kI (⟨#[66, 76, 82, 84]⟩ : ByteArray) 2 (2 + 1) HK.out)
              have HT2 := Aside0.mk (HT.out.trans (show SKept F wr (wr.iterAt kI (⟨#[66, 76, 82, 84]⟩ : ByteArray) (2 + 1)) from ⟨by rw [Lib.iterAt_size]; exact Nat.le_refl _, fun k hk => Lib.iterAt_other _ _ _ _ _ (HFF.out k hk).2⟩))
              have hcv : (convert 21 9 (.int .i32 82)).run Try.prog (wr.iterAt kI (⟨#[66, 76, 82, 84]⟩ : ByteArray) (2 + 1)) = .ok (.string (⟨#[82]⟩ : ByteArray)) (wr.iterAt kI (⟨#[66, 76, 82, 84]⟩ : ByteArray) (2 + 1)) := by rfl
              obtain ⟨HA1, HA2⟩ := HA.out
              have hpart : schP (schL n) (a + 1) (c + 1) s 82 = schL n a (c + 1) (s ++ (⟨#[82]⟩ : ByteArray)) := by unfold schP; simp
              have hrest : rest = schL n a (c + 1) (s ++ (⟨#[82]⟩ : ByteArray)) ++ (([66, 76, 82, 84] : List UInt8).drop (2 + 1)).foldr (fun ch r => schP (schL n) (a + 1) (c + 1) s ch ++ r) [] := by rw [← hpart]; exact HA2
              rw [hrest, runL_append] at HA1
              obtain ⟨⟨b1, x2⟩, hr1, hr2⟩ := Option.bind_eq_some_iff.1 HA1
              have HR1 := Aside0.mk hr1
              have HR2 := Aside0.mk hr2
              clear HA HA1 HA2 hpart hrest HI HK HT hr1 hr2
              generalize wr.iterAt kI (⟨#[66, 76, 82, 84]⟩ : ByteArray) (2 + 1) = w3 at hnx HI2 HK2 HT2 hcv ⊢
              cases b1 with
              | true =>
                have h2 := HR2.out
                rw [if_pos rfl] at h2
                injection h2 with h2
                injection h2 with h2 h3
                subst h2 h3
                clear HR2
                go_wp2_with (go_at_call 22; ( refine (HIH.out a (c + 1) (s ++ (⟨#[82]⟩ : ByteArray)) x1 x2 true F' _ ?z0 ?z1 HI2.out HR1.out).mono ?_); (case z0 => have := HC.out; omega); (case z1 => have := HS.out; rw [ByteArray.size_append]; show s.size + 1 + n ≤ 100; omega); rintro e w4 ⟨rfl, hI4, hk4⟩; have HI4 := Aside0.mk hI4; have HK4 := Aside0.mk hk4; clear hI4 hk4)
                go_ret
                exact ⟨rfl, HLE.out _ _ _ _ HI4.out (fun k hk => (HFF.out k hk).1), HT2.out.trans (HK4.out.sub (fun k hk => (HFF.out k hk).1))⟩
              | false =>
                have h2 := HR2.out
                rw [if_neg (by simp)] at h2
                have HR3 := Aside0.mk h2
                clear HR2 h2
                go_wp2_with (go_at_call 22; ( refine (HIH.out a (c + 1) (s ++ (⟨#[82]⟩ : ByteArray)) x1 x2 false F' _ ?z0 ?z1 HI2.out HR1.out).mono ?_); (case z0 => have := HC.out; omega); (case z1 => have := HS.out; rw [ByteArray.size_append]; show s.size + 1 + n ≤ 100; omega); rintro e w4 ⟨rfl, hI4, hk4⟩; have HI4 := Aside0.mk hI4; have HK4 := Aside0.mk hk4; clear hI4 hk4)
                go_roundg k1
                case measure => omega
                case rel => exact ⟨2 + 1, _, x2, ⟨by have := HP.out; omega, by omega⟩, ⟨(HK4.out.2 kI HFk.out).trans HK2.out⟩, HI4, ⟨HT2.out.trans (HK4.out.sub (fun k hk => (HFF.out k hk).1))⟩, ⟨HR3.out, rfl⟩⟩
            · have hnx : (Instr.next (.pointer (some ⟨kI, 0, none⟩)) true 0).run Try.prog wr = .ok (.tuple #[.bool true, .int .i64 (3 : Nat), .int .i32 ((84 : UInt8).toNat : Int)]) (wr.iterAt kI (⟨#[66, 76, 82, 84]⟩ : ByteArray) (3 + 1)) := Lib.run_next_ascii_at wr kI (⟨#[66, 76, 82, 84]⟩ : ByteArray) 3 0 HK.out (by decide) (by decide)
              rw [show ((84 : UInt8).toNat : Int) = 84 from rfl] at hnx
              have HI2 := Aside0.mk (HST.out F' x1 wr (⟨#[66, 76, 82, 84]⟩ : ByteArray) 3 (3 + 1) kI HI.out HFk.out HK.out HWS.out)
              have HK2 := Aside0.mk (Lib.iterAt_heap wr kI (⟨#[66, 76, 82, 84]⟩ : ByteArray) 3 (3 + 1) HK.out)
              have HT2 := Aside0.mk (HT.out.trans (show SKept F wr (wr.iterAt kI (⟨#[66, 76, 82, 84]⟩ : ByteArray) (3 + 1)) from ⟨by rw [Lib.iterAt_size]; exact Nat.le_refl _, fun k hk => Lib.iterAt_other _ _ _ _ _ (HFF.out k hk).2⟩))
              have hcv : (convert 21 9 (.int .i32 84)).run Try.prog (wr.iterAt kI (⟨#[66, 76, 82, 84]⟩ : ByteArray) (3 + 1)) = .ok (.string (⟨#[84]⟩ : ByteArray)) (wr.iterAt kI (⟨#[66, 76, 82, 84]⟩ : ByteArray) (3 + 1)) := by rfl
              obtain ⟨HA1, HA2⟩ := HA.out
              have hpart : schP (schL n) (a + 1) (c + 1) s 84 = schL n (a + 1) c (s ++ (⟨#[84]⟩ : ByteArray)) := by unfold schP; simp
              have hrest : rest = schL n (a + 1) c (s ++ (⟨#[84]⟩ : ByteArray)) ++ (([66, 76, 82, 84] : List UInt8).drop (3 + 1)).foldr (fun ch r => schP (schL n) (a + 1) (c + 1) s ch ++ r) [] := by rw [← hpart]; exact HA2
              rw [hrest, runL_append] at HA1
              obtain ⟨⟨b1, x2⟩, hr1, hr2⟩ := Option.bind_eq_some_iff.1 HA1
              have HR1 := Aside0.mk hr1
              have HR2 := Aside0.mk hr2
              clear HA HA1 HA2 hpart hrest HI HK HT hr1 hr2
              generalize wr.iterAt kI (⟨#[66, 76, 82, 84]⟩ : ByteArray) (3 + 1) = w3 at hnx HI2 HK2 HT2 hcv ⊢
              cases b1 with
              | true =>
                have h2 := HR2.out
                rw [if_pos rfl] at h2
                injection h2 with h2
                injection h2 with h2 h3
                subst h2 h3
                clear HR2
                go_wp2_with (go_at_call 22; ( refine (HIH.out (a + 1) c (s ++ (⟨#[84]⟩ : ByteArray)) x1 x2 true F' _ ?z0 ?z1 HI2.out HR1.out).mono ?_); (case z0 => have := HC.out; omega); (case z1 => have := HS.out; rw [ByteArray.size_append]; show s.size + 1 + n ≤ 100; omega); rintro e w4 ⟨rfl, hI4, hk4⟩; have HI4 := Aside0.mk hI4; have HK4 := Aside0.mk hk4; clear hI4 hk4)
                go_ret
                exact ⟨rfl, HLE.out _ _ _ _ HI4.out (fun k hk => (HFF.out k hk).1), HT2.out.trans (HK4.out.sub (fun k hk => (HFF.out k hk).1))⟩
              | false =>
                have h2 := HR2.out
                rw [if_neg (by simp)] at h2
                have HR3 := Aside0.mk h2
                clear HR2 h2
                go_wp2_with (go_at_call 22; ( refine (HIH.out (a + 1) c (s ++ (⟨#[84]⟩ : ByteArray)) x1 x2 false F' _ ?z0 ?z1 HI2.out HR1.out).mono ?_); (case z0 => have := HC.out; omega); (case z1 => have := HS.out; rw [ByteArray.size_append]; show s.size + 1 + n ≤ 100; omega); rintro e w4 ⟨rfl, hI4, hk4⟩; have HI4 := Aside0.mk hI4; have HK4 := Aside0.mk hk4; clear hI4 hk4)
                go_roundg k1
                case measure => omega
                case rel => exact ⟨3 + 1, _, x2, ⟨by have := HP.out; omega, by omega⟩, ⟨(HK4.out.2 kI HFk.out).trans HK2.out⟩, HI4, ⟨HT2.out.trans (HK4.out.sub (fun k hk => (HFF.out k hk).1))⟩, ⟨HR3.out, rfl⟩⟩
            · have hnx : (Instr.next (.pointer (some ⟨kI, 0, none⟩)) true 0).run Try.prog wr = .ok (.tuple #[.bool false]) wr := Lib.run_next_end_at wr kI (⟨#[66, 76, 82, 84]⟩ : ByteArray) 4 0 HK.out (by decide)
              obtain ⟨HA1, HA2⟩ := HA.out
              have hnil : rest = [] := HA2
              rw [hnil, runL] at HA1
              injection HA1 with HA1
              injection HA1 with h2 h3
              subst h2 h3
              clear HA HA2 hnil
              go_wp2
              go_ret
              exact ⟨rfl, HLE.out _ _ _ _ HI.out (fun k hk => (HFF.out k hk).1), HT.out⟩
/-! ### impl_FindScheme -/
def fs_p (k : Nat) (a0 a1 : Int) (l : List S46) (s : ByteArray) (_ : ByteArray) : Option (Bool × ByteArray) := (impl_foldSheet.f k a0 a1 s).bind fun r => (impl_Leaf_30.f k r l).bind fun b => some (b, s)
def impl_FindScheme.f (k : Nat) (a0 a1 : Int) (l0 : List S46) : Option (ByteArray × Int) := (impl_isSheet.f a0 a1).bind fun b => if b = true then ((impl_halvings.f k a0).bind fun x => (impl_halvings.f k a1).bind fun y => if 0 ≤ x ∧ x ≤ 3 ∧ 0 ≤ y ∧ y ≤ 3 then ((runL (fs_p k a0 a1 l0) (schL (x.toNat + y.toNat) x.toNat y.toNat (⟨#[]⟩ : ByteArray)) (⟨#[]⟩ : ByteArray)).bind fun r => if r.1 = true then some (r.2, 0) else some ((⟨#[]⟩ : ByteArray), 4)) else none) else some ((⟨#[]⟩ : ByteArray), 1)
theorem fs_mono (k : Nat) (a0 a1 : Int) (l : List S46) (s t : ByteArray) : LeO (fs_p k a0 a1 l s t) (fs_p (k + 1) a0 a1 l s t) := LeO.bind (impl_foldSheet.mono _ _ _ _) (fun _ => LeO.bind (impl_Leaf_30.mono _ _ _) (fun _ => LeO.refl _))
theorem impl_FindScheme.mono : ∀ a0 a1 a2 k, LeO (impl_FindScheme.f k a0 a1 a2) (impl_FindScheme.f (k + 1) a0 a1 a2) := by
  intro a0 a1 a2 k
  unfold impl_FindScheme.f
  exact LeO.bind (LeO.refl _) (fun _ => LeO.ite (LeO.bind (impl_halvings.mono _ _) (fun _ => LeO.bind (impl_halvings.mono _ _) (fun _ => LeO.ite (LeO.bind (runL_mono (fun s t => fs_mono k a0 a1 a2 s t) _ _) (fun _ => LeO.refl _)) (LeO.refl _)))) (LeO.refl _))
def FSInv (w : World) (bf bw bh bl : Nat) (a0 a1 : Int) (v : Value) (F : Nat → Prop) (t : ByteArray) (W : World) : Prop := Below w.heap.size w W ∧ (∀ k, F k → k < W.heap.size ∧ k ≠ bf ∧ k ≠ bw ∧ k ≠ bh ∧ k ≠ bl) ∧ W.heap[bf]? = some (.cells #[.string t] 9 (0, 0)) ∧ W.heap[bw]? = some (.cells #[.int .i64 a0] 2 (0, 0)) ∧ W.heap[bh]? = some (.cells #[.int .i64 a1] 2 (0, 0)) ∧ W.heap[bl]? = some (.cells #[v] 34 (0, 0)) ∧ w.heap.size ≤ bf ∧ bw ≠ bf ∧ bh ≠ bf ∧ bl ≠ bf
theorem FSInv.below {w : World} {bf bw bh bl : Nat} {a0 a1 : Int} {v : Value} {F : Nat → Prop} {t : ByteArray} {W W' : World} (h : FSInv w bf bw bh bl a0 a1 v F t W) (hb : Below W.heap.size W W') : FSInv w bf bw bh bl a0 a1 v F t W' ∧ SKept F W W' := by
  obtain ⟨h1, h2, h3, h4, h5, h6, h7⟩ := h
  exact ⟨⟨h1.trans (hb.mono (below_size h1)), fun k hk => ⟨Nat.lt_of_lt_of_le (h2 k hk).1 (below_size hb), (h2 k hk).2⟩, (hb.block _ (sk_lt h3)).trans h3, (hb.block _ (sk_lt h4)).trans h4, (hb.block _ (sk_lt h5)).trans h5, (hb.block _ (sk_lt h6)).trans h6, h7⟩, below_size hb, fun k hk => hb.block k (h2 k hk).1⟩
theorem FSInv.put {w : World} {bf bw bh bl : Nat} {a0 a1 : Int} {v : Value} {F : Nat → Prop} {t : ByteArray} {W : World} (h : FSInv w bf bw bh bl a0 a1 v F t W) (s : ByteArray) : FSInv w bf bw bh bl a0 a1 v F s (W.setCell ⟨bf, 0, none⟩ (.string s)) ∧ SKept F W (W.setCell ⟨bf, 0, none⟩ (.string s)) := by
  obtain ⟨h1, h2, h3, h4, h5, h6, h7, n1, n2, n3⟩ := h
  exact ⟨⟨below_set h1 h7, fun k hk => ⟨by have := (h2 k hk).1; simpa using this, (h2 k hk).2⟩, blk_put h3 0 _ rfl, blk_far h4 n1 _, blk_far h5 n2 _, blk_far h6 n3 _, h7, n1, n2, n3⟩, by simp, fun k hk => Below.heap_setCell W ⟨bf, 0, none⟩ (.string s) k (h2 k hk).2.1⟩
theorem FSInv.iter {w : World} {bf bw bh bl : Nat} {a0 a1 : Int} {v : Value} {F : Nat → Prop} {t : ByteArray} {W : World} (s : ByteArray) (h : FSInv w bf bw bh bl a0 a1 v F t W) : FSInv w bf bw bh bl a0 a1 v (fun k => F k ∨ k = W.heap.size) t (W.alloc (.stringIter s 0)) := by
  obtain ⟨h1, h2, h3, h4, h5, h6, h7⟩ := h
  have l3 := sk_lt h3
  have l4 := sk_lt h4
  have l5 := sk_lt h5
  have l6 := sk_lt h6
  refine ⟨below_alloc h1 _, fun k hk => ?_, (Lib.alloc_old _ _ _ l3).trans h3, (Lib.alloc_old _ _ _ l4).trans h4, (Lib.alloc_old _ _ _ l5).trans h5, (Lib.alloc_old _ _ _ l6).trans h6, h7⟩
  rcases hk with hk | rfl
  · have := h2 k hk
    exact ⟨by simp; omega, this.2⟩
  · exact ⟨by simp, by omega, by omega, by omega, by omega⟩
theorem FSInv.step {w : World} {bf bw bh bl : Nat} {a0 a1 : Int} {v : Value} {F : Nat → Prop} {t : ByteArray} {W : World} {s : ByteArray} {q kI : Nat} (h : FSInv w bf bw bh bl a0 a1 v F t W) (hk : F kI) (hle : w.heap.size ≤ kI) : FSInv w bf bw bh bl a0 a1 v F t (W.iterAt kI s q) := by
  obtain ⟨h1, h2, h3, h4, h5, h6, h7⟩ := h
  obtain ⟨k1, k2, k3, k4, k5⟩ := h2 kI hk
  exact ⟨Lib.below_iterAt h1 hle _ _, fun k hk => by rw [Lib.iterAt_size]; exact h2 k hk, (Lib.iterAt_other _ _ _ _ _ (fun e => k2 e.symm)).trans h3, (Lib.iterAt_other _ _ _ _ _ (fun e => k3 e.symm)).trans h4, (Lib.iterAt_other _ _ _ _ _ (fun e => k4 e.symm)).trans h5, (Lib.iterAt_other _ _ _ _ _ (fun e => k5 e.symm)).trans h6, h7⟩

set_option maxHeartbeats 4000000 in
set_option maxRecDepth 100000 in
theorem fs_closure (k : Nat) (A : Option Addr) (c : Nat) (l0 : List S46) (a0 a1 : Int) (w : World) (hr : Kd.C k46 w A l0.length l0) (hc : l0.length ≤ c) (bf bw bh bl : Nat) (F : Nat → Prop) (t : ByteArray) (W : World) (s : ByteArray) (b : Bool) (y : ByteArray) (hI : FSInv w bf bw bh bl a0 a1 (.slice A l0.length c) F t W) (h : fs_p k a0 a1 l0 s t = some (b, y)) :
    Calls Try.prog 29 (#[.string s] ++ #[.pointer (some ⟨bf, 0, none⟩), .pointer (some ⟨bw, 0, none⟩), .pointer (some ⟨bh, 0, none⟩), .pointer (some ⟨bl, 0, none⟩)]) W fun e W' => e = .returned (.bool b) ∧ FSInv w bf bw bh bl a0 a1 (.slice A l0.length c) F y W' ∧ SKept F W W' := by
  show Calls Try.prog 29 #[.string s, .pointer (some ⟨bf, 0, none⟩), .pointer (some ⟨bw, 0, none⟩), .pointer (some ⟨bh, 0, none⟩), .pointer (some ⟨bl, 0, none⟩)] W _
  unfold fs_p at h
  obtain ⟨st, hs, h1⟩ := Option.bind_eq_some_iff.1 h
  obtain ⟨b', he, h2⟩ := Option.bind_eq_some_iff.1 h1
  injection h2 with h2
  injection h2 with h2 h3
  subst h2 h3
  have HS := Aside0.mk hs
  have HE := Aside0.mk he
  have HI := Aside0.mk hI
  have HQ := Aside0.mk hr
  have HQC := Aside0.mk hc
  have hf2 := Lib.frozen_of_heap hI.2.2.1 0
  have hc2 : W.cell? ⟨bf, 0, none⟩ = some (.string t) := (Lib.cell_of_heap hI.2.2.1 0).trans rfl
  clear h h1 hs he hI hr hc
  go_enter Try.func29, Try.ntmps29
  go_wp2_with fail
  have HI2 := Aside0.mk (FSInv.put HI.out s)
  clear hf2 hc2
  generalize W.setCell ⟨bf, 0, none⟩ (.string s) = w2 at HI2 ⊢
  refine start_ (n := 7) (S := fun w' => w'.cell? ⟨bw, 0, none⟩ = some (.int .i64 a0) ∧ w'.cell? ⟨bh, 0, none⟩ = some (.int .i64 a1) ∧ w'.cell? ⟨bl, 0, none⟩ = some (.slice A l0.length c)) (ds := []) #[false, false, false, false, false, false, false] (by kernel_rfl) rfl rfl ⟨(Lib.cell_of_heap HI2.out.1.2.2.2.1 0).trans rfl, (Lib.cell_of_heap HI2.out.1.2.2.2.2.1 0).trans rfl, (Lib.cell_of_heap HI2.out.1.2.2.2.2.2.1 0).trans rfl⟩ (fun hHeld => ?_)
  have HI3 := Aside0.mk (FSInv.below HI2.out.1 (below_drew1 (Below.refl _ _))).1
  have HT3 := Aside0.mk (HI2.out.2.trans (FSInv.below HI2.out.1 (below_drew1 (Below.refl _ _))).2)
  generalize w2.drew = w3 at HI3 HT3 hHeld ⊢
  refine pure_ (i := 2) (N := some 10) (v := ?_) (a' := ?_) #[false, false, true, false, false, false, false] rfl rfl (by kernel_rfl) (fun _ _ _ h => h) (Or.inl ⟨by rfl, ?_⟩) ?_ ?_
  rotate_left
  · intro w'
    go_simp
    with_reducible rfl
  rotate_left
  · simp only [Act.put, List.setIfInBounds_toArray, List.set_cons_zero, List.set_cons_succ, i64_w, i32_w]
    rfl
  refine take_ (i := 0) (N := some 8) (v := ?_) (a' := ?_) #[true, false, true, false, false, false, false] rfl rfl (by kernel_rfl) (fun _ _ _ h => h) (Or.inl ⟨by rfl, ?_⟩) hHeld ?_ ?_
  rotate_left
  · rintro w' ⟨s0, s1, s2⟩
    go_simp
    with_reducible rfl
  rotate_left
  · simp only [Act.put, List.setIfInBounds_toArray, List.set_cons_zero, List.set_cons_succ, i64_w, i32_w]
    rfl
  refine take_ (i := 1) (N := some 9) (v := ?_) (a' := ?_) #[true, true, true, false, false, false, false] rfl rfl (by kernel_rfl) (fun _ _ _ h => h) (Or.inl ⟨by rfl, ?_⟩) hHeld ?_ ?_
  rotate_left
  · rintro w' ⟨s0, s1, s2⟩
    go_simp
    with_reducible rfl
  rotate_left
  · simp only [Act.put, List.setIfInBounds_toArray, List.set_cons_zero, List.set_cons_succ, i64_w, i32_w]
    rfl
  refine take_ (i := 4) (N := some 12) (v := ?_) (a' := ?_) #[true, true, true, false, true, false, false] rfl rfl (by kernel_rfl) (fun _ _ _ h => h) (Or.inl ⟨by rfl, ?_⟩) hHeld ?_ ?_
  rotate_left
  · rintro w' ⟨s0, s1, s2⟩
    go_simp
    with_reducible rfl
  rotate_left
  · simp only [Act.put, List.setIfInBounds_toArray, List.set_cons_zero, List.set_cons_succ, i64_w, i32_w]
    rfl
  refine one_ (i := 3) (N := some 11) #[true, true, true, true, true, false, false] rfl rfl (by kernel_rfl) (by decide) (fun K hK => ?_)
  refine goes_ Try.func31 (by kernel_rfl) rfl #[.int .i64 a0, .int .i64 a1, .string s] (by rfl) rfl rfl (by (try simp only [List.map_toArray, List.map_cons, List.map_nil]); first | done | rfl) ?_
  with_reducible refine (impl_foldSheet.calls k a0 a1 s st _ HS.out).mono ?_
  rintro e w4 ⟨v11, rfl, ho0, hb⟩
  obtain ⟨A11, c11, rfl⟩ := Kd.R_slice ho0
  have HI4 := Aside0.mk (FSInv.below HI3.out hb)
  have HR4 := Aside0.mk (Kd.R_reads' ho0).2
  have HS0_ := (hb.cell (World.block_lt_of_cell? _ _ hHeld.1)).trans hHeld.1
  have HS1_ := (hb.cell (World.block_lt_of_cell? _ _ hHeld.2.1)).trans hHeld.2.1
  have HS2_ := (hb.cell (World.block_lt_of_cell? _ _ hHeld.2.2)).trans hHeld.2.2
  have HQ4 := Aside0.mk (Kd.C_below HQ.out HI4.out.1.1)
  clear hb ho0
  refine ⟨_, rfl, ?_⟩
  refine hK.out _ _ ⟨HS0_, HS1_, HS2_⟩ (fun hHeld => ?_)
  clear HS0_ HS1_ HS2_
  clear hK K
  refine norm_ (a' := ?_) ?_ ?_
  rotate_left
  · show Act.put _ (some 11) _ = _
    simp only [Act.put, List.setIfInBounds_toArray, List.set_cons_zero, List.set_cons_succ, i64_w, i32_w]
    rfl
  refine one_ (i := 5) (N := some 13) #[true, true, true, true, true, true, false] rfl rfl (by kernel_rfl) (by decide) (fun K hK => ?_)
  refine goes_ Try.func30 (by kernel_rfl) rfl #[.slice A11 st.length c11, .slice A l0.length c] (by rfl) rfl rfl (by (try simp only [List.map_toArray, List.map_cons, List.map_nil]); first | done | rfl) ?_
  with_reducible refine (impl_Leaf_30.calls k A11 c11 st A c l0 b' _ HR4.out.2 HR4.out.1 HQ4.out HQC.out HE.out).mono ?_
  rintro e w5 ⟨rfl, ⟨nd, rfl⟩⟩
  refine ⟨_, rfl, ?_⟩
  refine hK.out _ _ hHeld (fun hHeld => ?_)
  clear hK K
  refine norm_ (a' := ?_) ?_ ?_
  rotate_left
  · show Act.put _ (some 13) _ = _
    simp only [Act.put, List.setIfInBounds_toArray, List.set_cons_zero, List.set_cons_succ, i64_w, i32_w]
    rfl
  refine pure_ (i := 6) (N := some 6) (v := ?_) (a' := ?_) #[true, true, true, true, true, true, true] rfl rfl (by kernel_rfl) (fun _ _ _ h => h) (Or.inl ⟨by rfl, ?_⟩) ?_ ?_
  rotate_left
  · intro w'
    go_simp
    with_reducible rfl
  rotate_left
  · simp only [Act.put, List.setIfInBounds_toArray, List.set_cons_zero, List.set_cons_succ, i64_w, i32_w]
    rfl
  refine done_ (by kernel_rfl) ?_
  go_wp2
  go_ret
  have hd := FSInv.below HI4.out.1 (pw_below_drewN (Below.refl _ _) nd)
  exact ⟨rfl, hd.1, HT3.out.trans (HI4.out.2.trans hd.2)⟩
theorem fs_box {w : World} {a b c : Value} {t u : TypeId} : Below w.heap.size w (((w.alloc (.cells #[a] t)).alloc (.cells #[b] t)).alloc (.cells #[c] u)) ∧ (((w.alloc (.cells #[a] t)).alloc (.cells #[b] t)).alloc (.cells #[c] u)).heap[w.heap.size]? = some (.cells #[a] t (0, 0)) ∧ (((w.alloc (.cells #[a] t)).alloc (.cells #[b] t)).alloc (.cells #[c] u)).heap[w.heap.size + 1]? = some (.cells #[b] t (0, 0)) ∧ (((w.alloc (.cells #[a] t)).alloc (.cells #[b] t)).alloc (.cells #[c] u)).heap[w.heap.size + 1 + 1]? = some (.cells #[c] u (0, 0)) ∧ (((w.alloc (.cells #[a] t)).alloc (.cells #[b] t)).alloc (.cells #[c] u)).heap.size = w.heap.size + 3 := by
  have z1 : (w.alloc (.cells #[a] t)).heap.size = w.heap.size + 1 := by simp
  have z2 : ((w.alloc (.cells #[a] t)).alloc (.cells #[b] t)).heap.size = w.heap.size + 2 := by simp
  refine ⟨below_alloc (below_alloc (below_alloc (Below.refl _ _) _) _) _, ?_, ?_, ?_, by simp⟩
  · exact (Lib.alloc_old ((w.alloc (.cells #[a] t)).alloc (.cells #[b] t)) (.cells #[c] u) _ (by omega)).trans ((Lib.alloc_old (w.alloc (.cells #[a] t)) (.cells #[b] t) _ (by omega)).trans (heap_alloc_new _ _))
  · refine (Lib.alloc_old ((w.alloc (.cells #[a] t)).alloc (.cells #[b] t)) (.cells #[c] u) _ (by omega)).trans ?_
    have := heap_alloc_new (w.alloc (.cells #[a] t)) (.cells #[b] t)
    rw [z1] at this
    exact this
  · have := heap_alloc_new ((w.alloc (.cells #[a] t)).alloc (.cells #[b] t)) (.cells #[c] u)
    rw [z2] at this
    exact this
set_option maxHeartbeats 8000000 in
set_option maxRecDepth 100000 in
theorem impl_FindScheme.calls (k : Nat) (a0 a1 : Int) (A0 : Option Addr) (c0 : Nat) (l0 : List (S46)) (r1 : ByteArray) (r2 : Int) (w : World) (hr0 : Kd.C k46 w A0 l0.length l0) (hc0 : l0.length ≤ c0) (h : impl_FindScheme.f k a0 a1 l0 = some (r1, r2)) :
    Calls Try.prog 16 #[.int .i64 a0, .int .i64 a1, .slice A0 l0.length c0] w fun e w' => e = .returned (.tuple #[.string r1, .int .i64 r2]) ∧ Below w.heap.size w w' := by
  unfold impl_FindScheme.f at h
  obtain ⟨t, ht, h0⟩ := Option.bind_eq_some_iff.1 h
  clear h
  have h := h0
  clear h0
  have HT := Aside0.mk ht
  have HR := Aside0.mk hr0
  have HC := Aside0.mk hc0
  obtain ⟨b1, b2, b3, b4, b5⟩ := fs_box (w := w) (a := .int .i64 a0) (b := .int .i64 a1) (c := .slice A0 l0.length c0) (t := 2) (u := 34)
  have B1 := Aside0.mk b1
  have B2 := Aside0.mk b2
  have B3 := Aside0.mk b3
  have B4 := Aside0.mk b4
  have B5 := Aside0.mk b5
  clear ht hr0 hc0 b1 b2 b3 b4 b5
  obtain ⟨g, hg⟩ : ∃ g : Nat, w.heap.size = g := ⟨_, rfl⟩
  have HG := Aside0.mk hg
  rw [hg] at B2 B3 B4 B5
  have hmf : ∀ (fn : Fn) (first cap : Array Value) (w : World), (Instr.makeFunc fn first cap).run Try.prog w = .ok (.func fn first cap) w := fun _ _ _ _ => rfl
  cases t with
  | false =>
    rw [if_neg (by simp)] at h
    injection h with h
    injection h with e1 e2
    subst e1 e2
    go_enter Try.func16, Try.ntmps16
    go_upto_region 1 with (fail)
    clear hg
    generalize ((w.alloc (.cells #[.int .i64 a0] 2)).alloc (.cells #[.int .i64 a1] 2)).alloc (.cells #[.slice A0 l0.length c0] 34) = w0 at B1 B2 B3 B4 B5 ⊢
    have q1 : w0.cell? ⟨g, 0, none⟩ = some (.int .i64 a0) := (blk_cell B2.out 0).trans rfl
    have q2 : w0.cell? ⟨g + 1, 0, none⟩ = some (.int .i64 a1) := (blk_cell B3.out 0).trans rfl
    go_wp2_with (go_at_call 21; (with_reducible refine (impl_isSheet.calls a0 a1 false _ HT.out).mono ?_); rintro e w1 ⟨rfl, ⟨nd, rfl⟩⟩)
    go_ret2
    exact ⟨rfl, by first | exact pw_below_drewN B1.out _ | (have h_ := pw_below_drewN B1.out nd; rw [HG.out] at h_; exact h_)⟩
  | true =>
    rw [if_pos rfl] at h
    obtain ⟨x, hx, h2⟩ := Option.bind_eq_some_iff.1 h
    clear h
    obtain ⟨y, hy, h⟩ := Option.bind_eq_some_iff.1 h2
    clear h2
    by_cases hc : 0 ≤ x ∧ x ≤ 3 ∧ 0 ≤ y ∧ y ≤ 3
    · rw [if_pos hc] at h
      obtain ⟨p, rfl⟩ := Int.eq_ofNat_of_zero_le hc.1
      obtain ⟨q, rfl⟩ := Int.eq_ofNat_of_zero_le hc.2.2.1
      simp only [Int.toNat_natCast] at h hc
      obtain ⟨⟨b, t⟩, hrun, h3⟩ := Option.bind_eq_some_iff.1 h
      have HX := Aside0.mk hx
      have HY := Aside0.mk hy
      have HCC := Aside0.mk hc
      have HRUN := Aside0.mk hrun
      have HF := Aside0.mk h3
      clear hx hy hc h hrun h3
      go_enter Try.func16, Try.ntmps16
      go_upto_region 1 with (fail)
      clear hg
      generalize ((w.alloc (.cells #[.int .i64 a0] 2)).alloc (.cells #[.int .i64 a1] 2)).alloc (.cells #[.slice A0 l0.length c0] 34) = w0 at B1 B2 B3 B4 B5 ⊢
      have q1 : w0.cell? ⟨g, 0, none⟩ = some (.int .i64 a0) := (blk_cell B2.out 0).trans rfl
      have q2 : w0.cell? ⟨g + 1, 0, none⟩ = some (.int .i64 a1) := (blk_cell B3.out 0).trans rfl
      go_wp2_with (first | (go_at_call 21; (with_reducible refine (impl_isSheet.calls a0 a1 true _ HT.out).mono ?_); rintro e w1 ⟨rfl, ⟨nd, rfl⟩⟩) | ((with_reducible refine gate_dst (N := 8) rfl ?_); refine box_event ?hg (N := 8) ?hd (cs := #[.string (⟨#[]⟩ : ByteArray)]) (t := 9) ?hr ?_; (case hd => rfl); (case hg => rfl); (case hr => first | (go_simp; done) | (go_simp; rfl)); intro gb hgb w10 hbox hbb; have HBX := Aside0.mk hbox; have HBB := Aside0.mk hbb; have HGB := Aside0.mk hgb; have hcz : w10.cell? ⟨gb, 0, none⟩ = some (.string (⟨#[]⟩ : ByteArray)) := (blk_cell hbox 0).trans rfl; have hfz := blk_frozen hbox 0; clear hbb hbox hgb))
      have hgb2 : gb = w0.heap.size := HGB.out
      have hB10 : Below w.heap.size w w10 := below_step (pw_below_drewN B1.out nd) HBB.out
      have z3 := B5.out
      have zg := HG.out
      have HI0 := Aside0.mk (show FSInv w gb g (g + 1) (g + 1 + 1) a0 a1 (.slice A0 l0.length c0) (fun _ => False) (⟨#[]⟩ : ByteArray) w10 from ⟨hB10, fun k hk => hk.elim, HBX.out, (HBB.out.block _ (blk_lt B2.out)).trans B2.out, (HBB.out.block _ (blk_lt B3.out)).trans B3.out, (HBB.out.block _ (blk_lt B4.out)).trans B4.out, by omega, by omega, by omega, by omega⟩)
      have HI1 := Aside0.mk (FSInv.put HI0.out (⟨#[]⟩ : ByteArray)).1
      clear hgb2 hB10 z3 zg HI0 hcz hfz q1 q2
      generalize w10.setCell ⟨gb, 0, none⟩ (.string (⟨#[]⟩ : ByteArray)) = w11 at HI1 ⊢
      refine start_ (n := 7) (S := fun w' => w'.cell? ⟨g, 0, none⟩ = some (.int .i64 a0) ∧ w'.cell? ⟨g + 1, 0, none⟩ = some (.int .i64 a1)) (ds := []) #[false, false, false, false, false, false, false] (by kernel_rfl) rfl rfl ⟨(Lib.cell_of_heap HI1.out.2.2.2.1 0).trans rfl, (Lib.cell_of_heap HI1.out.2.2.2.2.1 0).trans rfl⟩ (fun hHeld => ?_)
      have HI2 := Aside0.mk (FSInv.below HI1.out (below_drew1 (Below.refl _ _))).1
      generalize w11.drew = w12 at HI2 hHeld ⊢
      refine pure_ (i := 4) (N := some 17) (v := ?_) (a' := ?_) #[false, false, false, false, true, false, false] rfl rfl (by kernel_rfl) (fun _ _ _ h => h) (Or.inl ⟨by rfl, ?_⟩) ?_ ?_
      rotate_left
      · intro w'
        go_simp
        with_reducible rfl
      rotate_left
      · simp only [Act.put, List.setIfInBounds_toArray, List.set_cons_zero, List.set_cons_succ, i64_w, i32_w]
        rfl
      refine take_ (i := 0) (N := some 13) (v := ?_) (a' := ?_) #[true, false, false, false, true, false, false] rfl rfl (by kernel_rfl) (fun _ _ _ h => h) (Or.inl ⟨by rfl, ?_⟩) hHeld ?_ ?_
      rotate_left
      · rintro w' ⟨s0, s1⟩
        go_simp
        with_reducible rfl
      rotate_left
      · simp only [Act.put, List.setIfInBounds_toArray, List.set_cons_zero, List.set_cons_succ, i64_w, i32_w]
        rfl
      refine take_ (i := 2) (N := some 15) (v := ?_) (a' := ?_) #[true, false, true, false, true, false, false] rfl rfl (by kernel_rfl) (fun _ _ _ h => h) (Or.inl ⟨by rfl, ?_⟩) hHeld ?_ ?_
      rotate_left
      · rintro w' ⟨s0, s1⟩
        go_simp
        with_reducible rfl
      rotate_left
      · simp only [Act.put, List.setIfInBounds_toArray, List.set_cons_zero, List.set_cons_succ, i64_w, i32_w]
        rfl
      refine one_ (i := 1) (N := some 14) #[true, true, true, false, true, false, false] rfl rfl (by kernel_rfl) (by decide) (fun K hK => ?_)
      refine goes_ Try.func23 (by kernel_rfl) rfl #[.int .i64 a0] (by rfl) rfl rfl (by (try simp only [List.map_toArray, List.map_cons, List.map_nil]); first | done | rfl) ?_
      with_reducible refine (impl_halvings.calls k a0 (p : Int) _ HX.out).mono ?_
      rintro e w_ ⟨rfl, ⟨nd14, rfl⟩⟩
      have HI3 := Aside0.mk (FSInv.below HI2.out (pw_below_drewN (Below.refl _ _) nd14)).1
      refine ⟨_, rfl, ?_⟩
      refine hK.out _ _ hHeld (fun hHeld => ?_)
      clear hK K
      refine norm_ (a' := ?_) ?_ ?_
      rotate_left
      · show Act.put _ (some 14) _ = _
        simp only [Act.put, List.setIfInBounds_toArray, List.set_cons_zero, List.set_cons_succ, i64_w, i32_w]
        rfl
      refine one_ (i := 3) (N := some 16) #[true, true, true, true, true, false, false] rfl rfl (by kernel_rfl) (by decide) (fun K hK => ?_)
      refine goes_ Try.func23 (by kernel_rfl) rfl #[.int .i64 a1] (by rfl) rfl rfl (by (try simp only [List.map_toArray, List.map_cons, List.map_nil]); first | done | rfl) ?_
      with_reducible refine (impl_halvings.calls k a1 (q : Int) _ HY.out).mono ?_
      rintro e w_ ⟨rfl, ⟨nd16, rfl⟩⟩
      have HI4 := Aside0.mk (FSInv.below HI3.out (pw_below_drewN (Below.refl _ _) nd16)).1
      refine ⟨_, rfl, ?_⟩
      refine hK.out _ _ hHeld (fun hHeld => ?_)
      clear hK K
      refine norm_ (a' := ?_) ?_ ?_
      rotate_left
      · show Act.put _ (some 16) _ = _
        simp only [Act.put, List.setIfInBounds_toArray, List.set_cons_zero, List.set_cons_succ, i64_w, i32_w]
        rfl
      refine one_ (i := 5) (N := some 18) #[true, true, true, true, true, true, false] rfl rfl (by kernel_rfl) (by decide) (fun K hK => ?_)
      refine goes_ Try.func22 (by kernel_rfl) rfl #[.int .i64 (p : Int), .int .i64 (q : Int), .string (⟨#[]⟩ : ByteArray), .func (.func 29) #[] #[.pointer (some ⟨gb, 0, none⟩), .pointer (some ⟨g, 0, none⟩), .pointer (some ⟨g + 1, 0, none⟩), .pointer (some ⟨g + 1 + 1, 0, none⟩)]] (by rfl) rfl rfl (by (try simp only [List.map_toArray, List.map_cons, List.map_nil]); first | done | rfl) ?_
      refine (sc_calls (CF := 29) #[.pointer (some ⟨gb, 0, none⟩), .pointer (some ⟨g, 0, none⟩), .pointer (some ⟨g + 1, 0, none⟩), .pointer (some ⟨g + 1 + 1, 0, none⟩)] (fs_p k a0 a1 l0) (FSInv w gb g (g + 1) (g + 1 + 1) a0 a1 (.slice A0 l0.length c0)) w Try.func29 (by kernel_rfl) rfl (fun F x W h => ⟨below_size h.1, fun k hk => (h.2.1 k hk).1⟩) (fun F x W s h => FSInv.iter s h) (fun F x W s p q kI h hk _ hl => FSInv.step h hk hl) (fun F F' x W h hs => ⟨h.1, fun k hk => h.2.1 k (hs k hk), h.2.2⟩) (fun F x W s b y h hp => fs_closure k A0 c0 l0 a0 a1 w HR.out HC.out gb g (g + 1) (g + 1 + 1) F x W s b y h hp) (p + q) p q (⟨#[]⟩ : ByteArray) (⟨#[]⟩ : ByteArray) t b (fun _ => False) _ rfl (by have := HCC.out; show 0 + (p + q) ≤ 100; omega) HI4.out HRUN.out).mono ?_
      rintro e w18 ⟨rfl, hI5, _⟩
      have HI5 := Aside0.mk hI5
      refine ⟨_, rfl, ?_⟩
      refine hK.out _ _ ⟨(Lib.cell_of_heap hI5.2.2.2.1 0).trans rfl, (Lib.cell_of_heap hI5.2.2.2.2.1 0).trans rfl⟩ (fun hHeld => ?_)
      clear hI5
      clear hK K
      refine norm_ (a' := ?_) ?_ ?_
      rotate_left
      · show Act.put _ (some 18) _ = _
        simp only [Act.put, List.setIfInBounds_toArray, List.set_cons_zero, List.set_cons_succ, i64_w, i32_w]
        rfl
      refine pure_ (i := 6) (N := some 19) (v := ?_) (a' := ?_) #[true, true, true, true, true, true, true] rfl rfl (by kernel_rfl) (fun _ _ _ h => h) (Or.inl ⟨by rfl, ?_⟩) ?_ ?_
      rotate_left
      · intro w'
        go_simp
        with_reducible rfl
      rotate_left
      · simp only [Act.put, List.setIfInBounds_toArray, List.set_cons_zero, List.set_cons_succ, i64_w, i32_w]
        rfl
      refine done_ (by kernel_rfl) ?_
      have hc8 : w18.cell? ⟨gb, 0, none⟩ = some (.string t) := (Lib.cell_of_heap HI5.out.2.2.1 0).trans rfl
      have h3 := HF.out
      clear HF
      cases b with
      | true =>
        rw [if_pos rfl] at h3
        injection h3 with h3
        injection h3 with e1 e2
        subst e1 e2
        go_wp2
        go_ret2
        exact ⟨rfl, by first | exact HI5.out.1 | (have h_ := HI5.out.1; rw [HG.out] at h_; exact h_)⟩
      | false =>
        rw [if_neg (by simp)] at h3
        injection h3 with h3
        injection h3 with e1 e2
        subst e1 e2
        go_wp2
        go_ret2
        exact ⟨rfl, by first | exact HI5.out.1 | (have h_ := HI5.out.1; rw [HG.out] at h_; exact h_)⟩
    · rw [if_neg hc] at h; cases h

end Go.Proofs.Ytijbccmcfagnfaa.QFnExactFindScheme
