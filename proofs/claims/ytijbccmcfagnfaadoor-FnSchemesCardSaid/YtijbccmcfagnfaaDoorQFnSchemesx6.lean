-- Written by own_print.py of this session's repo over the kit's print (its output, turned at some places).
import Derived.Test.YtijbccmcfagnfaaDoorQFnSchemesx0
import Derived.Test.YtijbccmcfagnfaaDoorQFnSchemesx2
namespace Go.Proofs.YtijbccmcfagnfaaDoor.QFnSchemes
open Go.RowKit Go.Proofs.YtijbccmcfagnfaaDoorW.PrintWords Go.Proofs.YtijbccmcfagnfaaDoorW.PrintLast Go.Proofs.YtijbccmcfagnfaaDoorW.PrintMore
attribute [local go_sem] max2_int min2_int max_two min_two max_three min_three max_four min_four   -- for this text's walks alone
set_option linter.unusedVariables false
set_option linter.unusedSimpArgs false

/-! ### impl_schemes -/
def schP (f : Nat → Nat → ByteArray → List ByteArray) (a c : Nat) (d : ByteArray) (ch : UInt8) : List ByteArray := if ch = 66 ∨ ch = 84 then (if 0 < c then f a (c - 1) (d ++ (⟨#[ch]⟩ : ByteArray)) else []) else (if 0 < a then f (a - 1) c (d ++ (⟨#[ch]⟩ : ByteArray)) else [])
def schL : Nat → Nat → Nat → ByteArray → List ByteArray
  | 0, _, _, d => [d]
  | n + 1, a, c, d => schP (schL n) a c d 66 ++ (schP (schL n) a c d 76 ++ (schP (schL n) a c d 82 ++ (schP (schL n) a c d 84 ++ [])))
def runL {σ : Type} (stp : ByteArray → σ → Option (Bool × σ)) : List ByteArray → σ → Option (Bool × σ)
  | [], x => some (false, x)
  | s :: t, x => (stp s x).bind fun r => if r.1 = true then some (true, r.2) else runL stp t r.2
theorem runL_append {σ : Type} (stp : ByteArray → σ → Option (Bool × σ)) : ∀ (l m : List ByteArray) (x : σ), runL stp (l ++ m) x = (runL stp l x).bind fun r => if r.1 = true then some (true, r.2) else runL stp m r.2
  | [], m, x => rfl
  | s :: t, m, x => by
    rw [List.cons_append, runL, runL]
    cases stp s x with
    | none => rfl
    | some r =>
      simp only [Option.bind_some]
      cases h : r.1 with
      | true => rfl
      | false => simp only [Bool.false_eq_true, if_false]; exact runL_append stp t m r.2
theorem runL_one {σ : Type} {stp : ByteArray → σ → Option (Bool × σ)} {s : ByteArray} {x y : σ} {b : Bool} (h : runL stp [s] x = some (b, y)) : stp s x = some (b, y) := by
  rw [runL] at h
  cases hs : stp s x with
  | none => rw [hs] at h; cases h
  | some r =>
    rw [hs] at h
    simp only [Option.bind_some] at h
    obtain ⟨c, z⟩ := r
    cases c with
    | true => exact h
    | false => exact h
theorem runL_mono {σ : Type} {p q : ByteArray → σ → Option (Bool × σ)} (h : ∀ s x, LeO (p s x) (q s x)) : ∀ (l : List ByteArray) (x : σ), LeO (runL p l x) (runL q l x)
  | [], _ => LeO.refl _
  | s :: t, x => LeO.bind (h s x) (fun r => LeO.ite (LeO.refl _) (runL_mono h t r.2))
def SKept (F : Nat → Prop) (W W' : World) : Prop := W.heap.size ≤ W'.heap.size ∧ ∀ k, F k → W'.heap[k]? = W.heap[k]?
theorem SKept.trans {F : Nat → Prop} {W W' W2 : World} (h : SKept F W W') (h2 : SKept F W' W2) : SKept F W W2 := ⟨Nat.le_trans h.1 h2.1, fun k hk => (h2.2 k hk).trans (h.2 k hk)⟩
theorem SKept.sub {F F' : Nat → Prop} {W W' : World} (h : SKept F' W W') (hs : ∀ k, F k → F' k) : SKept F W W' := ⟨h.1, fun k hk => h.2 k (hs k hk)⟩
theorem sk_lt {W : World} {b : Nat} {o : Obj} (h : W.heap[b]? = some o) : b < W.heap.size := (Array.getElem?_eq_some_iff.1 h).1
theorem scL {P : Program} {ops : Array Oper} {Q : Exit → Act → World → Prop} {rest : List Oper} {oi : Oper} {a : Act} {w : World} (t : Tmp) (N : Option Tmp) (hd : oi.dst = N) (hg : oi.guard = none) {f : FuncId} {fn : Func} {as1 : Array Operand} {ts : Array TypeId} {cap : Array Value} (hf : P.funcs[f]? = some fn) (hname : (fn.name == "runtime.NumGoroutine") = false) (hb : fn.body.isSome = true) (args as0 : Array Value)
    (hop : oi.op = .call { callee := .value (.tmp t), args := as1, argTypes := ts }) (ht : a.eval (.tmp t) = .func (.func f) #[] cap) (has : as1.map a.eval = as0) (hargs : as0 ++ cap = args)
    (h : Calls P f args w fun e w' => ∃ v, e = .returned v ∧ wpList P ops Q rest (a.put N v) w') : wpList P ops Q (oi :: rest) a w := by
  refine wpList_plain hg fun K hK => ?_
  have he := enters_ hf hname hb args w
  have hrun : (execOp a.eval oi).run P w = .ok (.enter f args) w := by
    unfold execOp
    simp [hop, resolve, Deferred.ofValue, invoke, ht, has]
    rw [hargs]
    exact he
  unfold Oper.wp
  rw [hrun, Oper.upon_enter]
  refine h.mono fun e w'' hh => ?_
  obtain ⟨v, rfl, hk⟩ := hh
  subst hd
  exact hK _ _ hk

set_option maxHeartbeats 40000000 in
set_option maxRecDepth 100000 in
theorem sc_calls {σ : Type} {CF : FuncId} {fn : Func} (cap : Array Value) (stp : ByteArray → σ → Option (Bool × σ)) (Inv : (Nat → Prop) → σ → World → Prop) (w : World) (hf : Tryd.prog.funcs[CF]? = some fn) (hname : (fn.name == "runtime.NumGoroutine") = false) (hb : fn.body.isSome = true)
    (hsz : ∀ F x W, Inv F x W → w.heap.size ≤ W.heap.size ∧ ∀ k, F k → k < W.heap.size)
    (hit : ∀ F x W s, Inv F x W → Inv (fun k => F k ∨ k = W.heap.size) x (W.alloc (.stringIter s 0)))
    (hst : ∀ F x W s p q kI, Inv F x W → F kI → W.heap[kI]? = some (.stringIter s p) → w.heap.size ≤ kI → Inv F x (W.iterAt kI s q))
    (hle : ∀ F F' x W, Inv F' x W → (∀ k, F k → F' k) → Inv F x W)
    (hcl : ∀ F x W s b y, Inv F x W → stp s x = some (b, y) → Calls Tryd.prog CF (#[.string s] ++ cap) W fun e W' => e = .returned (.bool b) ∧ Inv F y W' ∧ SKept F W W') :
    ∀ (n a c : Nat) (s : ByteArray) (x y : σ) (b : Bool) (F : Nat → Prop) (W : World), a + c = n → s.size + n ≤ 100 → Inv F x W → runL stp (schL n a c s) x = some (b, y) →
    Calls Tryd.prog 61 #[.int .i64 (a : Int), .int .i64 (c : Int), .string s, .func (.func CF) #[] cap] W fun e W' => e = .returned (.bool b) ∧ Inv F y W' ∧ SKept F W W' := by
  have HFN := Aside0.mk hf
  have HNM := Aside0.mk hname
  have HBD := Aside0.mk hb
  have HSZ := Aside0.mk hsz
  have HIT := Aside0.mk hit
  have HST := Aside0.mk hst
  have HLE := Aside0.mk hle
  have HCL := Aside0.mk hcl
  clear hf hname hb hsz hit hst hle hcl
  intro n
  induction n with
  | zero =>
    intro a c s x y b F W hn hs hI hr
    obtain rfl : a = 0 := by omega
    obtain rfl : c = 0 := by omega
    have HI := Aside0.mk hI
    have HR := Aside0.mk (runL_one hr)
    clear hI hr
    go_enter Tryd.func61, Tryd.ntmps61
    go_wp2_with ((with_reducible refine gate_dst (N := 19) rfl ?_); refine scL 17 (some 19) rfl rfl HFN.out HNM.out HBD.out (#[.string s] ++ cap) #[.string s] rfl rfl (by (try simp only [List.map_toArray, List.map_cons, List.map_nil]); first | done | rfl) rfl ?_; refine (HCL.out F x _ s b y HI.out HR.out).mono ?_; rintro e w1 ⟨rfl, hI1, hk1⟩; refine ⟨_, rfl, ?_⟩; have HI1 := Aside0.mk hI1; have HK1 := Aside0.mk hk1; clear hI1 hk1)
    go_ret
    exact ⟨rfl, HI1.out, HK1.out⟩
  | succ n ih =>
    intro a c s x y b F W hn hs hI hr
    have HIH := Aside0.mk ih
    have HS := Aside0.mk hs
    have HR := Aside0.mk hr
    have n4 : (9223372036854775807 < s.size + 1) = False := eq_false (by omega)
    have n5 : decide (s.size + 1 ≤ 9223372036854775807) = true := decide_eq_true (by omega)
    have HWS := Aside0.mk (HSZ.out _ _ _ hI).1
    have HFS := Aside0.mk (HSZ.out _ _ _ hI).2
    have i1 := HIT.out F x W (⟨#[66, 76, 82, 84]⟩ : ByteArray) hI
    have i2 : (W.alloc (.stringIter (⟨#[66, 76, 82, 84]⟩ : ByteArray) 0)).heap[W.heap.size]? = some (.stringIter (⟨#[66, 76, 82, 84]⟩ : ByteArray) 0) := heap_alloc_new _ _
    have i3 : SKept F W (W.alloc (.stringIter (⟨#[66, 76, 82, 84]⟩ : ByteArray) 0)) := ⟨by simp, fun k hk => Lib.alloc_old _ _ _ (HFS.out k hk)⟩
    clear ih hI hs hr
    have HC := Aside0.mk hn
    clear hn
    rcases a with _ | a
    · skip
      have nc : (((c : Nat) : Int) == 0) = false := by rw [beq_eq_false_iff_ne]; have := HC.out; omega
      have gc : decide (((c : Nat) : Int) > 0) = true := decide_eq_true (by have := HC.out; omega)
      have HCc := Aside0.mk (show 0 < c by have := HC.out; omega)
      have gcn : decide (0 < c) = true := decide_eq_true HCc.out
      have m1 : wrap64 (((c : Nat) : Int) - 1) = ((c - 1 : Nat) : Int) := by have := HC.out; have := HS.out; unfold wrap64; omega
      have m2 : IntKind.i64.wrap (((c : Nat) : Int) - 1) = ((c - 1 : Nat) : Int) := (i64_w _).trans m1
      go_enter Tryd.func61, Tryd.ntmps61
      go_wp2
      change Code.wp _ _ _ _ (W.alloc (.stringIter (⟨#[66, 76, 82, 84]⟩ : ByteArray) 0))
      have I1 := Aside0.mk i1
      have I2 := Aside0.mk i2
      have I3 := Aside0.mk i3
      clear i1 i2 i3
      generalize W.alloc (.stringIter (⟨#[66, 76, 82, 84]⟩ : ByteArray) 0) = w0 at I1 I2 I3 ⊢
      obtain ⟨kI, hkI⟩ : ∃ kI : Nat, W.heap.size = kI := ⟨_, rfl⟩
      obtain ⟨F', hF'⟩ : ∃ F' : Nat → Prop, (fun k => F k ∨ k = kI) = F' := ⟨_, rfl⟩
      have HFk := Aside0.mk (show F' kI by rw [← hF']; exact .inr rfl)
      have HFF := Aside0.mk (show ∀ k, F k → F' k ∧ k ≠ kI by rw [← hF']; exact fun k hk => ⟨.inl hk, fun e => by have := HFS.out k hk; omega⟩)
      rw [hkI] at I1 I2 HWS ⊢
      rw [hF'] at I1
      clear hkI hF' HFS
      go_loopg [] 5 (fun kq W' => ∃ (p : Nat) (rest : List ByteArray) (x1 : σ), Aside0 (p + kq = 5 ∧ p ≤ 4) ∧ Aside0 (W'.heap[kI]? = some (.stringIter (⟨#[66, 76, 82, 84]⟩ : ByteArray) p)) ∧ Aside0 (Inv F' x1 W') ∧ Aside0 (SKept F W W') ∧ Aside0 (runL stp rest x1 = some (b, y) ∧ rest = (([66, 76, 82, 84] : List UInt8).drop p).foldr (fun ch r => schP (schL n) 0 c s ch ++ r) []))
      case atStart => exact ⟨0, _, x, ⟨by omega, by omega⟩, I2, I1, I3, ⟨by have h := HR.out; rw [schL] at h; exact h, rfl⟩⟩
      case round =>
        clear I1 I2 I3 HR
        obtain ⟨p, rest, x1, HP, HK, HI, HT, HA⟩ := hrel
        have hp := HP.out
        cases gk with
        | zero => exact absurd HP.out (fun h => by omega)
        | succ k1 =>
          have hpc : p = 0 ∨ p = 1 ∨ p = 2 ∨ p = 3 ∨ p = 4 := by omega
          clear hp
          rcases hpc with rfl | rfl | rfl | rfl | rfl
          · have hnx : (Instr.next (.pointer (some ⟨kI, 0, none⟩)) true 0).run Tryd.prog wr = .ok (.tuple #[.bool true, .int .i64 (0 : Nat), .int .i32 ((66 : UInt8).toNat : Int)]) (wr.iterAt kI (⟨#[66, 76, 82, 84]⟩ : ByteArray) (0 + 1)) := Lib.run_next_ascii_at wr kI (⟨#[66, 76, 82, 84]⟩ : ByteArray) 0 0 HK.out (by decide) (by decide)
            rw [show ((66 : UInt8).toNat : Int) = 66 from rfl] at hnx
            have HI2 := Aside0.mk (HST.out F' x1 wr (⟨#[66, 76, 82, 84]⟩ : ByteArray) 0 (0 + 1) kI HI.out HFk.out HK.out HWS.out)
            have HK2 := Aside0.mk (Lib.iterAt_heap wr kI (⟨#[66, 76, 82, 84]⟩ : ByteArray) 0 (0 + 1) HK.out)
            have HT2 := Aside0.mk (HT.out.trans (show SKept F wr (wr.iterAt kI (⟨#[66, 76, 82, 84]⟩ : ByteArray) (0 + 1)) from ⟨by rw [Lib.iterAt_size]; exact Nat.le_refl _, fun k hk => Lib.iterAt_other _ _ _ _ _ (HFF.out k hk).2⟩))
            have hcv : (convert 21 9 (.int .i32 66)).run Tryd.prog (wr.iterAt kI (⟨#[66, 76, 82, 84]⟩ : ByteArray) (0 + 1)) = .ok (.string (⟨#[66]⟩ : ByteArray)) (wr.iterAt kI (⟨#[66, 76, 82, 84]⟩ : ByteArray) (0 + 1)) := by rfl
            obtain ⟨HA1, HA2⟩ := HA.out
            have hpart : schP (schL n) 0 c s 66 = schL n 0 (c - 1) (s ++ (⟨#[66]⟩ : ByteArray)) := by unfold schP; simp [HCc.out]
            have hrest : rest = schL n 0 (c - 1) (s ++ (⟨#[66]⟩ : ByteArray)) ++ (([66, 76, 82, 84] : List UInt8).drop (0 + 1)).foldr (fun ch r => schP (schL n) 0 c s ch ++ r) [] := by rw [← hpart]; exact HA2
            rw [hrest, runL_append] at HA1
            obtain ⟨⟨b1, x2⟩, hr1, hr2⟩ := Option.bind_eq_some_iff.1 HA1
            have HR1 := Aside0.mk hr1
            have HR2 := Aside0.mk hr2
            clear HA HA1 HA2 hpart hrest HI HK HT hr1 hr2
            generalize wr.iterAt kI (⟨#[66, 76, 82, 84]⟩ : ByteArray) (0 + 1) = w3 at hnx HI2 HK2 HT2 hcv ⊢
            cases b1 with
            | true =>
              have h2 := HR2.out
              rw [if_pos rfl] at h2
              injection h2 with h2
              injection h2 with h2 h3
              subst h2 h3
              clear HR2
              go_wp2_with (go_at_call 61; ( refine (HIH.out 0 (c - 1) (s ++ (⟨#[66]⟩ : ByteArray)) x1 x2 true F' _ ?z0 ?z1 HI2.out HR1.out).mono ?_); (case z0 => have := HC.out; omega); (case z1 => have := HS.out; rw [ByteArray.size_append]; show s.size + 1 + n ≤ 100; omega); rintro e w4 ⟨rfl, hI4, hk4⟩; have HI4 := Aside0.mk hI4; have HK4 := Aside0.mk hk4; clear hI4 hk4)
              go_ret
              exact ⟨rfl, HLE.out _ _ _ _ HI4.out (fun k hk => (HFF.out k hk).1), HT2.out.trans (HK4.out.sub (fun k hk => (HFF.out k hk).1))⟩
            | false =>
              have h2 := HR2.out
              rw [if_neg (by simp)] at h2
              have HR3 := Aside0.mk h2
              clear HR2 h2
              go_wp2_with (go_at_call 61; ( refine (HIH.out 0 (c - 1) (s ++ (⟨#[66]⟩ : ByteArray)) x1 x2 false F' _ ?z0 ?z1 HI2.out HR1.out).mono ?_); (case z0 => have := HC.out; omega); (case z1 => have := HS.out; rw [ByteArray.size_append]; show s.size + 1 + n ≤ 100; omega); rintro e w4 ⟨rfl, hI4, hk4⟩; have HI4 := Aside0.mk hI4; have HK4 := Aside0.mk hk4; clear hI4 hk4)
              go_roundg k1
              case measure => omega
              case rel => exact ⟨0 + 1, _, x2, ⟨by have := HP.out; omega, by omega⟩, ⟨(HK4.out.2 kI HFk.out).trans HK2.out⟩, HI4, ⟨HT2.out.trans (HK4.out.sub (fun k hk => (HFF.out k hk).1))⟩, ⟨HR3.out, rfl⟩⟩
          · have hnx : (Instr.next (.pointer (some ⟨kI, 0, none⟩)) true 0).run Tryd.prog wr = .ok (.tuple #[.bool true, .int .i64 (1 : Nat), .int .i32 ((76 : UInt8).toNat : Int)]) (wr.iterAt kI (⟨#[66, 76, 82, 84]⟩ : ByteArray) (1 + 1)) := Lib.run_next_ascii_at wr kI (⟨#[66, 76, 82, 84]⟩ : ByteArray) 1 0 HK.out (by decide) (by decide)
            rw [show ((76 : UInt8).toNat : Int) = 76 from rfl] at hnx
            have HI2 := Aside0.mk (HST.out F' x1 wr (⟨#[66, 76, 82, 84]⟩ : ByteArray) 1 (1 + 1) kI HI.out HFk.out HK.out HWS.out)
            have HK2 := Aside0.mk (Lib.iterAt_heap wr kI (⟨#[66, 76, 82, 84]⟩ : ByteArray) 1 (1 + 1) HK.out)
            have HT2 := Aside0.mk (HT.out.trans (show SKept F wr (wr.iterAt kI (⟨#[66, 76, 82, 84]⟩ : ByteArray) (1 + 1)) from ⟨by rw [Lib.iterAt_size]; exact Nat.le_refl _, fun k hk => Lib.iterAt_other _ _ _ _ _ (HFF.out k hk).2⟩))
            have hcv : (convert 21 9 (.int .i32 76)).run Tryd.prog (wr.iterAt kI (⟨#[66, 76, 82, 84]⟩ : ByteArray) (1 + 1)) = .ok (.string (⟨#[76]⟩ : ByteArray)) (wr.iterAt kI (⟨#[66, 76, 82, 84]⟩ : ByteArray) (1 + 1)) := by rfl
            obtain ⟨HA1, HA2⟩ := HA.out
            have hpart : schP (schL n) 0 c s 76 = [] := by unfold schP; simp
            have hrest : rest = (([66, 76, 82, 84] : List UInt8).drop (1 + 1)).foldr (fun ch r => schP (schL n) 0 c s ch ++ r) [] := by rw [HA2]; show schP (schL n) 0 c s 76 ++ _ = _; rw [hpart]; rfl
            have HRE := Aside0.mk hrest
            have HA3 := Aside0.mk HA1
            clear HA HA1 HA2 hpart hrest HI HK HT
            generalize wr.iterAt kI (⟨#[66, 76, 82, 84]⟩ : ByteArray) (1 + 1) = w3 at hnx HI2 HK2 HT2 hcv ⊢
            go_wp2
            go_roundg k1
            case measure => omega
            case rel => exact ⟨1 + 1, rest, x1, ⟨by have := HP.out; omega, by omega⟩, HK2, HI2, HT2, ⟨HA3.out, HRE.out⟩⟩
          · have hnx : (Instr.next (.pointer (some ⟨kI, 0, none⟩)) true 0).run Tryd.prog wr = .ok (.tuple #[.bool true, .int .i64 (2 : Nat), .int .i32 ((82 : UInt8).toNat : Int)]) (wr.iterAt kI (⟨#[66, 76, 82, 84]⟩ : ByteArray) (2 + 1)) := Lib.run_next_ascii_at wr kI (⟨#[66, 76, 82, 84]⟩ : ByteArray) 2 0 HK.out (by decide) (by decide)
            rw [show ((82 : UInt8).toNat : Int) = 82 from rfl] at hnx
            have HI2 := Aside0.mk (HST.out F' x1 wr (⟨#[66, 76, 82, 84]⟩ : ByteArray) 2 (2 + 1) kI HI.out HFk.out HK.out HWS.out)
            have HK2 := Aside0.mk (Lib.iterAt_heap wr kI (⟨#[66, 76, 82, 84]⟩ : ByteArray) 2 (2 + 1) HK.out)
            have HT2 := Aside0.mk (HT.out.trans (show SKept F wr (wr.iterAt kI (⟨#[66, 76, 82, 84]⟩ : ByteArray) (2 + 1)) from ⟨by rw [Lib.iterAt_size]; exact Nat.le_refl _, fun k hk => Lib.iterAt_other _ _ _ _ _ (HFF.out k hk).2⟩))
            have hcv : (convert 21 9 (.int .i32 82)).run Tryd.prog (wr.iterAt kI (⟨#[66, 76, 82, 84]⟩ : ByteArray) (2 + 1)) = .ok (.string (⟨#[82]⟩ : ByteArray)) (wr.iterAt kI (⟨#[66, 76, 82, 84]⟩ : ByteArray) (2 + 1)) := by rfl
            obtain ⟨HA1, HA2⟩ := HA.out
            have hpart : schP (schL n) 0 c s 82 = [] := by unfold schP; simp
            have hrest : rest = (([66, 76, 82, 84] : List UInt8).drop (2 + 1)).foldr (fun ch r => schP (schL n) 0 c s ch ++ r) [] := by rw [HA2]; show schP (schL n) 0 c s 82 ++ _ = _; rw [hpart]; rfl
            have HRE := Aside0.mk hrest
            have HA3 := Aside0.mk HA1
            clear HA HA1 HA2 hpart hrest HI HK HT
            generalize wr.iterAt kI (⟨#[66, 76, 82, 84]⟩ : ByteArray) (2 + 1) = w3 at hnx HI2 HK2 HT2 hcv ⊢
            go_wp2
            go_roundg k1
            case measure => omega
            case rel => exact ⟨2 + 1, rest, x1, ⟨by have := HP.out; omega, by omega⟩, HK2, HI2, HT2, ⟨HA3.out, HRE.out⟩⟩
          · have hnx : (Instr.next (.pointer (some ⟨kI, 0, none⟩)) true 0).run Tryd.prog wr = .ok (.tuple #[.bool true, .int .i64 (3 : Nat), .int .i32 ((84 : UInt8).toNat : Int)]) (wr.iterAt kI (⟨#[66, 76, 82, 84]⟩ : ByteArray) (3 + 1)) := Lib.run_next_ascii_at wr kI (⟨#[66, 76, 82, 84]⟩ : ByteArray) 3 0 HK.out (by decide) (by decide)
            rw [show ((84 : UInt8).toNat : Int) = 84 from rfl] at hnx
            have HI2 := Aside0.mk (HST.out F' x1 wr (⟨#[66, 76, 82, 84]⟩ : ByteArray) 3 (3 + 1) kI HI.out HFk.out HK.out HWS.out)
            have HK2 := Aside0.mk (Lib.iterAt_heap wr kI (⟨#[66, 76, 82, 84]⟩ : ByteArray) 3 (3 + 1) HK.out)
            have HT2 := Aside0.mk (HT.out.trans (show SKept F wr (wr.iterAt kI (⟨#[66, 76, 82, 84]⟩ : ByteArray) (3 + 1)) from ⟨by rw [Lib.iterAt_size]; exact Nat.le_refl _, fun k hk => Lib.iterAt_other _ _ _ _ _ (HFF.out k hk).2⟩))
            have hcv : (convert 21 9 (.int .i32 84)).run Tryd.prog (wr.iterAt kI (⟨#[66, 76, 82, 84]⟩ : ByteArray) (3 + 1)) = .ok (.string (⟨#[84]⟩ : ByteArray)) (wr.iterAt kI (⟨#[66, 76, 82, 84]⟩ : ByteArray) (3 + 1)) := by rfl
            obtain ⟨HA1, HA2⟩ := HA.out
            have hpart : schP (schL n) 0 c s 84 = schL n 0 (c - 1) (s ++ (⟨#[84]⟩ : ByteArray)) := by unfold schP; simp [HCc.out]
            have hrest : rest = schL n 0 (c - 1) (s ++ (⟨#[84]⟩ : ByteArray)) ++ (([66, 76, 82, 84] : List UInt8).drop (3 + 1)).foldr (fun ch r => schP (schL n) 0 c s ch ++ r) [] := by rw [← hpart]; exact HA2
            rw [hrest, runL_append] at HA1
            obtain ⟨⟨b1, x2⟩, hr1, hr2⟩ := Option.bind_eq_some_iff.1 HA1
            have HR1 := Aside0.mk hr1
            have HR2 := Aside0.mk hr2
            clear HA HA1 HA2 hpart hrest HI HK HT hr1 hr2
            generalize wr.iterAt kI (⟨#[66, 76, 82, 84]⟩ : ByteArray) (3 + 1) = w3 at hnx HI2 HK2 HT2 hcv ⊢
            cases b1 with
            | true =>
              have h2 := HR2.out
              rw [if_pos rfl] at h2
              injection h2 with h2
              injection h2 with h2 h3
              subst h2 h3
              clear HR2
              go_wp2_with (go_at_call 61; ( refine (HIH.out 0 (c - 1) (s ++ (⟨#[84]⟩ : ByteArray)) x1 x2 true F' _ ?z0 ?z1 HI2.out HR1.out).mono ?_); (case z0 => have := HC.out; omega); (case z1 => have := HS.out; rw [ByteArray.size_append]; show s.size + 1 + n ≤ 100; omega); rintro e w4 ⟨rfl, hI4, hk4⟩; have HI4 := Aside0.mk hI4; have HK4 := Aside0.mk hk4; clear hI4 hk4)
              go_ret
              exact ⟨rfl, HLE.out _ _ _ _ HI4.out (fun k hk => (HFF.out k hk).1), HT2.out.trans (HK4.out.sub (fun k hk => (HFF.out k hk).1))⟩
            | false =>
              have h2 := HR2.out
              rw [if_neg (by simp)] at h2
              have HR3 := Aside0.mk h2
              clear HR2 h2
              go_wp2_with (go_at_call 61; ( refine (HIH.out 0 (c - 1) (s ++ (⟨#[84]⟩ : ByteArray)) x1 x2 false F' _ ?z0 ?z1 HI2.out HR1.out).mono ?_); (case z0 => have := HC.out; omega); (case z1 => have := HS.out; rw [ByteArray.size_append]; show s.size + 1 + n ≤ 100; omega); rintro e w4 ⟨rfl, hI4, hk4⟩; have HI4 := Aside0.mk hI4; have HK4 := Aside0.mk hk4; clear hI4 hk4)
              go_roundg k1
              case measure => omega
              case rel => exact ⟨3 + 1, _, x2, ⟨by have := HP.out; omega, by omega⟩, ⟨(HK4.out.2 kI HFk.out).trans HK2.out⟩, HI4, ⟨HT2.out.trans (HK4.out.sub (fun k hk => (HFF.out k hk).1))⟩, ⟨HR3.out, rfl⟩⟩
          · have hnx : (Instr.next (.pointer (some ⟨kI, 0, none⟩)) true 0).run Tryd.prog wr = .ok (.tuple #[.bool false]) wr := Lib.run_next_end_at wr kI (⟨#[66, 76, 82, 84]⟩ : ByteArray) 4 0 HK.out (by decide)
            obtain ⟨HA1, HA2⟩ := HA.out
            have hnil : rest = [] := HA2
            rw [hnil, runL] at HA1
            injection HA1 with HA1
            injection HA1 with h2 h3
            subst h2 h3
            clear HA HA2 hnil
            go_wp2
            go_ret
            exact ⟨rfl, HLE.out _ _ _ _ HI.out (fun k hk => (HFF.out k hk).1), HT.out⟩
    · rcases c with _ | c
      · skip
        have na : (((a + 1 : Nat) : Int) == 0) = false := by rw [beq_eq_false_iff_ne]; omega
        have na2 : (((a : Nat) : Int) + 1 == 0) = false := by rw [beq_eq_false_iff_ne]; omega
        have ga : decide (((a + 1 : Nat) : Int) > 0) = true := decide_eq_true (by omega)
        have ga2 : decide (((a : Nat) : Int) + 1 > 0) = true := decide_eq_true (by omega)
        have p1 : wrap64 (((a + 1 : Nat) : Int) - 1) = (a : Int) := by have := HC.out; have := HS.out; unfold wrap64; omega
        have p2 : IntKind.i64.wrap (((a + 1 : Nat) : Int) - 1) = (a : Int) := (i64_w _).trans p1
        have p3 : wrap64 ((a : Int) + 1 - 1) = (a : Int) := by have := HC.out; have := HS.out; unfold wrap64; omega
        have p4 : wrap64 (a : Int) = (a : Int) := by have := HC.out; have := HS.out; unfold wrap64; omega
        go_enter Tryd.func61, Tryd.ntmps61
        go_wp2
        change Code.wp _ _ _ _ (W.alloc (.stringIter (⟨#[66, 76, 82, 84]⟩ : ByteArray) 0))
        have I1 := Aside0.mk i1
        have I2 := Aside0.mk i2
        have I3 := Aside0.mk i3
        clear i1 i2 i3
        generalize W.alloc (.stringIter (⟨#[66, 76, 82, 84]⟩ : ByteArray) 0) = w0 at I1 I2 I3 ⊢
        obtain ⟨kI, hkI⟩ : ∃ kI : Nat, W.heap.size = kI := ⟨_, rfl⟩
        obtain ⟨F', hF'⟩ : ∃ F' : Nat → Prop, (fun k => F k ∨ k = kI) = F' := ⟨_, rfl⟩
        have HFk := Aside0.mk (show F' kI by rw [← hF']; exact .inr rfl)
        have HFF := Aside0.mk (show ∀ k, F k → F' k ∧ k ≠ kI by rw [← hF']; exact fun k hk => ⟨.inl hk, fun e => by have := HFS.out k hk; omega⟩)
        rw [hkI] at I1 I2 HWS ⊢
        rw [hF'] at I1
        clear hkI hF' HFS
        go_loopg [] 5 (fun kq W' => ∃ (p : Nat) (rest : List ByteArray) (x1 : σ), Aside0 (p + kq = 5 ∧ p ≤ 4) ∧ Aside0 (W'.heap[kI]? = some (.stringIter (⟨#[66, 76, 82, 84]⟩ : ByteArray) p)) ∧ Aside0 (Inv F' x1 W') ∧ Aside0 (SKept F W W') ∧ Aside0 (runL stp rest x1 = some (b, y) ∧ rest = (([66, 76, 82, 84] : List UInt8).drop p).foldr (fun ch r => schP (schL n) (a + 1) 0 s ch ++ r) []))
        case atStart => exact ⟨0, _, x, ⟨by omega, by omega⟩, I2, I1, I3, ⟨by have h := HR.out; rw [schL] at h; exact h, rfl⟩⟩
        case round =>
          clear I1 I2 I3 HR
          obtain ⟨p, rest, x1, HP, HK, HI, HT, HA⟩ := hrel
          have hp := HP.out
          cases gk with
          | zero => exact absurd HP.out (fun h => by omega)
          | succ k1 =>
            have hpc : p = 0 ∨ p = 1 ∨ p = 2 ∨ p = 3 ∨ p = 4 := by omega
            clear hp
            rcases hpc with rfl | rfl | rfl | rfl | rfl
            · have hnx : (Instr.next (.pointer (some ⟨kI, 0, none⟩)) true 0).run Tryd.prog wr = .ok (.tuple #[.bool true, .int .i64 (0 : Nat), .int .i32 ((66 : UInt8).toNat : Int)]) (wr.iterAt kI (⟨#[66, 76, 82, 84]⟩ : ByteArray) (0 + 1)) := Lib.run_next_ascii_at wr kI (⟨#[66, 76, 82, 84]⟩ : ByteArray) 0 0 HK.out (by decide) (by decide)
              rw [show ((66 : UInt8).toNat : Int) = 66 from rfl] at hnx
              have HI2 := Aside0.mk (HST.out F' x1 wr (⟨#[66, 76, 82, 84]⟩ : ByteArray) 0 (0 + 1) kI HI.out HFk.out HK.out HWS.out)
              have HK2 := Aside0.mk (Lib.iterAt_heap wr kI (⟨#[66, 76, 82, 84]⟩ : ByteArray) 0 (0 + 1) HK.out)
              have HT2 := Aside0.mk (HT.out.trans (show SKept F wr (wr.iterAt kI (⟨#[66, 76, 82, 84]⟩ : ByteArray) (0 + 1)) from ⟨by rw [Lib.iterAt_size]; exact Nat.le_refl _, fun k hk => Lib.iterAt_other _ _ _ _ _ (HFF.out k hk).2⟩))
              have hcv : (convert 21 9 (.int .i32 66)).run Tryd.prog (wr.iterAt kI (⟨#[66, 76, 82, 84]⟩ : ByteArray) (0 + 1)) = .ok (.string (⟨#[66]⟩ : ByteArray)) (wr.iterAt kI (⟨#[66, 76, 82, 84]⟩ : ByteArray) (0 + 1)) := by rfl
              obtain ⟨HA1, HA2⟩ := HA.out
              have hpart : schP (schL n) (a + 1) 0 s 66 = [] := by unfold schP; simp
              have hrest : rest = (([66, 76, 82, 84] : List UInt8).drop (0 + 1)).foldr (fun ch r => schP (schL n) (a + 1) 0 s ch ++ r) [] := by rw [HA2]; show schP (schL n) (a + 1) 0 s 66 ++ _ = _; rw [hpart]; rfl
              have HRE := Aside0.mk hrest
              have HA3 := Aside0.mk HA1
              clear HA HA1 HA2 hpart hrest HI HK HT
              generalize wr.iterAt kI (⟨#[66, 76, 82, 84]⟩ : ByteArray) (0 + 1) = w3 at hnx HI2 HK2 HT2 hcv ⊢
              go_wp2
              go_roundg k1
              case measure => omega
              case rel => exact ⟨0 + 1, rest, x1, ⟨by have := HP.out; omega, by omega⟩, HK2, HI2, HT2, ⟨HA3.out, HRE.out⟩⟩
            · have hnx : (Instr.next (.pointer (some ⟨kI, 0, none⟩)) true 0).run Tryd.prog wr = .ok (.tuple #[.bool true, .int .i64 (1 : Nat), .int .i32 ((76 : UInt8).toNat : Int)]) (wr.iterAt kI (⟨#[66, 76, 82, 84]⟩ : ByteArray) (1 + 1)) := Lib.run_next_ascii_at wr kI (⟨#[66, 76, 82, 84]⟩ : ByteArray) 1 0 HK.out (by decide) (by decide)
              rw [show ((76 : UInt8).toNat : Int) = 76 from rfl] at hnx
              have HI2 := Aside0.mk (HST.out F' x1 wr (⟨#[66, 76, 82, 84]⟩ : ByteArray) 1 (1 + 1) kI HI.out HFk.out HK.out HWS.out)
              have HK2 := Aside0.mk (Lib.iterAt_heap wr kI (⟨#[66, 76, 82, 84]⟩ : ByteArray) 1 (1 + 1) HK.out)
              have HT2 := Aside0.mk (HT.out.trans (show SKept F wr (wr.iterAt kI (⟨#[66, 76, 82, 84]⟩ : ByteArray) (1 + 1)) from ⟨by rw [Lib.iterAt_size]; exact Nat.le_refl _, fun k hk => Lib.iterAt_other _ _ _ _ _ (HFF.out k hk).2⟩))
              have hcv : (convert 21 9 (.int .i32 76)).run Tryd.prog (wr.iterAt kI (⟨#[66, 76, 82, 84]⟩ : ByteArray) (1 + 1)) = .ok (.string (⟨#[76]⟩ : ByteArray)) (wr.iterAt kI (⟨#[66, 76, 82, 84]⟩ : ByteArray) (1 + 1)) := by rfl
              obtain ⟨HA1, HA2⟩ := HA.out
              have hpart : schP (schL n) (a + 1) 0 s 76 = schL n a 0 (s ++ (⟨#[76]⟩ : ByteArray)) := by unfold schP; simp
              have hrest : rest = schL n a 0 (s ++ (⟨#[76]⟩ : ByteArray)) ++ (([66, 76, 82, 84] : List UInt8).drop (1 + 1)).foldr (fun ch r => schP (schL n) (a + 1) 0 s ch ++ r) [] := by rw [← hpart]; exact HA2
              rw [hrest, runL_append] at HA1
              obtain ⟨⟨b1, x2⟩, hr1, hr2⟩ := Option.bind_eq_some_iff.1 HA1
              have HR1 := Aside0.mk hr1
              have HR2 := Aside0.mk hr2
              clear HA HA1 HA2 hpart hrest HI HK HT hr1 hr2
              generalize wr.iterAt kI (⟨#[66, 76, 82, 84]⟩ : ByteArray) (1 + 1) = w3 at hnx HI2 HK2 HT2 hcv ⊢
              cases b1 with
              | true =>
                have h2 := HR2.out
                rw [if_pos rfl] at h2
                injection h2 with h2
                injection h2 with h2 h3
                subst h2 h3
                clear HR2
                go_wp2_with (go_at_call 61; ( refine (HIH.out a 0 (s ++ (⟨#[76]⟩ : ByteArray)) x1 x2 true F' _ ?z0 ?z1 HI2.out HR1.out).mono ?_); (case z0 => have := HC.out; omega); (case z1 => have := HS.out; rw [ByteArray.size_append]; show s.size + 1 + n ≤ 100; omega); rintro e w4 ⟨rfl, hI4, hk4⟩; have HI4 := Aside0.mk hI4; have HK4 := Aside0.mk hk4; clear hI4 hk4)
                go_ret
                exact ⟨rfl, HLE.out _ _ _ _ HI4.out (fun k hk => (HFF.out k hk).1), HT2.out.trans (HK4.out.sub (fun k hk => (HFF.out k hk).1))⟩
              | false =>
                have h2 := HR2.out
                rw [if_neg (by simp)] at h2
                have HR3 := Aside0.mk h2
                clear HR2 h2
                go_wp2_with (go_at_call 61; ( refine (HIH.out a 0 (s ++ (⟨#[76]⟩ : ByteArray)) x1 x2 false F' _ ?z0 ?z1 HI2.out HR1.out).mono ?_); (case z0 => have := HC.out; omega); (case z1 => have := HS.out; rw [ByteArray.size_append]; show s.size + 1 + n ≤ 100; omega); rintro e w4 ⟨rfl, hI4, hk4⟩; have HI4 := Aside0.mk hI4; have HK4 := Aside0.mk hk4; clear hI4 hk4)
                go_roundg k1
                case measure => omega
                case rel => exact ⟨1 + 1, _, x2, ⟨by have := HP.out; omega, by omega⟩, ⟨(HK4.out.2 kI HFk.out).trans HK2.out⟩, HI4, ⟨HT2.out.trans (HK4.out.sub (fun k hk => (HFF.out k hk).1))⟩, ⟨HR3.out, rfl⟩⟩
            · have hnx : (Instr.next (.pointer (some ⟨kI, 0, none⟩)) true 0).run Tryd.prog wr = .ok (.tuple #[.bool true, .int .i64 (2 : Nat), .int .i32 ((82 : UInt8).toNat : Int)]) (wr.iterAt kI (⟨#[66, 76, 82, 84]⟩ : ByteArray) (2 + 1)) := Lib.run_next_ascii_at wr kI (⟨#[66, 76, 82, 84]⟩ : ByteArray) 2 0 HK.out (by decide) (by decide)
              rw [show ((82 : UInt8).toNat : Int) = 82 from rfl] at hnx
              have HI2 := Aside0.mk (HST.out F' x1 wr (⟨#[66, 76, 82, 84]⟩ : ByteArray) 2 (2 + 1) kI HI.out HFk.out HK.out HWS.out)
              have HK2 := Aside0.mk (Lib.iterAt_heap wr kI (⟨#[66, 76, 82, 84]⟩ : ByteArray) 2 (2 + 1) HK.out)
              have HT2 := Aside0.mk (HT.out.trans (show SKept F wr (wr.iterAt kI (⟨#[66, 76, 82, 84]⟩ : ByteArray) (2 + 1)) from ⟨by rw [Lib.iterAt_size]; exact Nat.le_refl _, fun k hk => Lib.iterAt_other _ _ _ _ _ (HFF.out k hk).2⟩))
              have hcv : (convert 21 9 (.int .i32 82)).run Tryd.prog (wr.iterAt kI (⟨#[66, 76, 82, 84]⟩ : ByteArray) (2 + 1)) = .ok (.string (⟨#[82]⟩ : ByteArray)) (wr.iterAt kI (⟨#[66, 76, 82, 84]⟩ : ByteArray) (2 + 1)) := by rfl
              obtain ⟨HA1, HA2⟩ := HA.out
              have hpart : schP (schL n) (a + 1) 0 s 82 = schL n a 0 (s ++ (⟨#[82]⟩ : ByteArray)) := by unfold schP; simp
              have hrest : rest = schL n a 0 (s ++ (⟨#[82]⟩ : ByteArray)) ++ (([66, 76, 82, 84] : List UInt8).drop (2 + 1)).foldr (fun ch r => schP (schL n) (a + 1) 0 s ch ++ r) [] := by rw [← hpart]; exact HA2
              rw [hrest, runL_append] at HA1
              obtain ⟨⟨b1, x2⟩, hr1, hr2⟩ := Option.bind_eq_some_iff.1 HA1
              have HR1 := Aside0.mk hr1
              have HR2 := Aside0.mk hr2
              clear HA HA1 HA2 hpart hrest HI HK HT hr1 hr2
              generalize wr.iterAt kI (⟨#[66, 76, 82, 84]⟩ : ByteArray) (2 + 1) = w3 at hnx HI2 HK2 HT2 hcv ⊢
              cases b1 with
              | true =>
                have h2 := HR2.out
                rw [if_pos rfl] at h2
                injection h2 with h2
                injection h2 with h2 h3
                subst h2 h3
                clear HR2
                go_wp2_with (go_at_call 61; ( refine (HIH.out a 0 (s ++ (⟨#[82]⟩ : ByteArray)) x1 x2 true F' _ ?z0 ?z1 HI2.out HR1.out).mono ?_); (case z0 => have := HC.out; omega); (case z1 => have := HS.out; rw [ByteArray.size_append]; show s.size + 1 + n ≤ 100; omega); rintro e w4 ⟨rfl, hI4, hk4⟩; have HI4 := Aside0.mk hI4; have HK4 := Aside0.mk hk4; clear hI4 hk4)
                go_ret
                exact ⟨rfl, HLE.out _ _ _ _ HI4.out (fun k hk => (HFF.out k hk).1), HT2.out.trans (HK4.out.sub (fun k hk => (HFF.out k hk).1))⟩
              | false =>
                have h2 := HR2.out
                rw [if_neg (by simp)] at h2
                have HR3 := Aside0.mk h2
                clear HR2 h2
                go_wp2_with (go_at_call 61; ( refine (HIH.out a 0 (s ++ (⟨#[82]⟩ : ByteArray)) x1 x2 false F' _ ?z0 ?z1 HI2.out HR1.out).mono ?_); (case z0 => have := HC.out; omega); (case z1 => have := HS.out; rw [ByteArray.size_append]; show s.size + 1 + n ≤ 100; omega); rintro e w4 ⟨rfl, hI4, hk4⟩; have HI4 := Aside0.mk hI4; have HK4 := Aside0.mk hk4; clear hI4 hk4)
                go_roundg k1
                case measure => omega
                case rel => exact ⟨2 + 1, _, x2, ⟨by have := HP.out; omega, by omega⟩, ⟨(HK4.out.2 kI HFk.out).trans HK2.out⟩, HI4, ⟨HT2.out.trans (HK4.out.sub (fun k hk => (HFF.out k hk).1))⟩, ⟨HR3.out, rfl⟩⟩
            · have hnx : (Instr.next (.pointer (some ⟨kI, 0, none⟩)) true 0).run Tryd.prog wr = .ok (.tuple #[.bool true, .int .i64 (3 : Nat), .int .i32 ((84 : UInt8).toNat : Int)]) (wr.iterAt kI (⟨#[66, 76, 82, 84]⟩ : ByteArray) (3 + 1)) := Lib.run_next_ascii_at wr kI (⟨#[66, 76, 82, 84]⟩ : ByteArray) 3 0 HK.out (by decide) (by decide)
              rw [show ((84 : UInt8).toNat : Int) = 84 from rfl] at hnx
              have HI2 := Aside0.mk (HST.out F' x1 wr (⟨#[66, 76, 82, 84]⟩ : ByteArray) 3 (3 + 1) kI HI.out HFk.out HK.out HWS.out)
              have HK2 := Aside0.mk (Lib.iterAt_heap wr kI (⟨#[66, 76, 82, 84]⟩ : ByteArray) 3 (3 + 1) HK.out)
              have HT2 := Aside0.mk (HT.out.trans (show SKept F wr (wr.iterAt kI (⟨#[66, 76, 82, 84]⟩ : ByteArray) (3 + 1)) from ⟨by rw [Lib.iterAt_size]; exact Nat.le_refl _, fun k hk => Lib.iterAt_other _ _ _ _ _ (HFF.out k hk).2⟩))
              have hcv : (convert 21 9 (.int .i32 84)).run Tryd.prog (wr.iterAt kI (⟨#[66, 76, 82, 84]⟩ : ByteArray) (3 + 1)) = .ok (.string (⟨#[84]⟩ : ByteArray)) (wr.iterAt kI (⟨#[66, 76, 82, 84]⟩ : ByteArray) (3 + 1)) := by rfl
              obtain ⟨HA1, HA2⟩ := HA.out
              have hpart : schP (schL n) (a + 1) 0 s 84 = [] := by unfold schP; simp
              have hrest : rest = (([66, 76, 82, 84] : List UInt8).drop (3 + 1)).foldr (fun ch r => schP (schL n) (a + 1) 0 s ch ++ r) [] := by rw [HA2]; show schP (schL n) (a + 1) 0 s 84 ++ _ = _; rw [hpart]; rfl
              have HRE := Aside0.mk hrest
              have HA3 := Aside0.mk HA1
              clear HA HA1 HA2 hpart hrest HI HK HT
              generalize wr.iterAt kI (⟨#[66, 76, 82, 84]⟩ : ByteArray) (3 + 1) = w3 at hnx HI2 HK2 HT2 hcv ⊢
              go_wp2
              go_roundg k1
              case measure => omega
              case rel => exact ⟨3 + 1, rest, x1, ⟨by have := HP.out; omega, by omega⟩, HK2, HI2, HT2, ⟨HA3.out, HRE.out⟩⟩
            · have hnx : (Instr.next (.pointer (some ⟨kI, 0, none⟩)) true 0).run Tryd.prog wr = .ok (.tuple #[.bool false]) wr := Lib.run_next_end_at wr kI (⟨#[66, 76, 82, 84]⟩ : ByteArray) 4 0 HK.out (by decide)
              obtain ⟨HA1, HA2⟩ := HA.out
              have hnil : rest = [] := HA2
              rw [hnil, runL] at HA1
              injection HA1 with HA1
              injection HA1 with h2 h3
              subst h2 h3
              clear HA HA2 hnil
              go_wp2
              go_ret
              exact ⟨rfl, HLE.out _ _ _ _ HI.out (fun k hk => (HFF.out k hk).1), HT.out⟩
      · skip
        have na : (((a + 1 : Nat) : Int) == 0) = false := by rw [beq_eq_false_iff_ne]; omega
        have na2 : (((a : Nat) : Int) + 1 == 0) = false := by rw [beq_eq_false_iff_ne]; omega
        have ga : decide (((a + 1 : Nat) : Int) > 0) = true := decide_eq_true (by omega)
        have ga2 : decide (((a : Nat) : Int) + 1 > 0) = true := decide_eq_true (by omega)
        have p1 : wrap64 (((a + 1 : Nat) : Int) - 1) = (a : Int) := by have := HC.out; have := HS.out; unfold wrap64; omega
        have p2 : IntKind.i64.wrap (((a + 1 : Nat) : Int) - 1) = (a : Int) := (i64_w _).trans p1
        have p3 : wrap64 ((a : Int) + 1 - 1) = (a : Int) := by have := HC.out; have := HS.out; unfold wrap64; omega
        have p4 : wrap64 (a : Int) = (a : Int) := by have := HC.out; have := HS.out; unfold wrap64; omega
        have gc : decide (((c + 1 : Nat) : Int) > 0) = true := decide_eq_true (by omega)
        have gc2 : decide (((c : Nat) : Int) + 1 > 0) = true := decide_eq_true (by omega)
        have m1 : wrap64 (((c + 1 : Nat) : Int) - 1) = (c : Int) := by have := HC.out; have := HS.out; unfold wrap64; omega
        have m2 : IntKind.i64.wrap (((c + 1 : Nat) : Int) - 1) = (c : Int) := (i64_w _).trans m1
        have m3 : wrap64 ((c : Int) + 1 - 1) = (c : Int) := by have := HC.out; have := HS.out; unfold wrap64; omega
        have m4 : wrap64 (c : Int) = (c : Int) := by have := HC.out; have := HS.out; unfold wrap64; omega
        go_enter Tryd.func61, Tryd.ntmps61
        go_wp2
        change Code.wp _ _ _ _ (W.alloc (.stringIter (⟨#[66, 76, 82, 84]⟩ : ByteArray) 0))
        have I1 := Aside0.mk i1
        have I2 := Aside0.mk i2
        have I3 := Aside0.mk i3
        clear i1 i2 i3
        generalize W.alloc (.stringIter (⟨#[66, 76, 82, 84]⟩ : ByteArray) 0) = w0 at I1 I2 I3 ⊢
        obtain ⟨kI, hkI⟩ : ∃ kI : Nat, W.heap.size = kI := ⟨_, rfl⟩
        obtain ⟨F', hF'⟩ : ∃ F' : Nat → Prop, (fun k => F k ∨ k = kI) = F' := ⟨_, rfl⟩
        have HFk := Aside0.mk (show F' kI by rw [← hF']; exact .inr rfl)
        have HFF := Aside0.mk (show ∀ k, F k → F' k ∧ k ≠ kI by rw [← hF']; exact fun k hk => ⟨.inl hk, fun e => by have := HFS.out k hk; omega⟩)
        rw [hkI] at I1 I2 HWS ⊢
        rw [hF'] at I1
        clear hkI hF' HFS
        go_loopg [] 5 (fun kq W' => ∃ (p : Nat) (rest : List ByteArray) (x1 : σ), Aside0 (p + kq = 5 ∧ p ≤ 4) ∧ Aside0 (W'.heap[kI]? = some (.stringIter (⟨#[66, 76, 82, 84]⟩ : ByteArray) p)) ∧ Aside0 (Inv F' x1 W') ∧ Aside0 (SKept F W W') ∧ Aside0 (runL stp rest x1 = some (b, y) ∧ rest = (([66, 76, 82, 84] : List UInt8).drop p).foldr (fun ch r => schP (schL n) (a + 1) (c + 1) s ch ++ r) []))
        case atStart => exact ⟨0, _, x, ⟨by omega, by omega⟩, I2, I1, I3, ⟨by have h := HR.out; rw [schL] at h; exact h, rfl⟩⟩
        case round =>
          clear I1 I2 I3 HR
          obtain ⟨p, rest, x1, HP, HK, HI, HT, HA⟩ := hrel
          have hp := HP.out
          cases gk with
          | zero => exact absurd HP.out (fun h => by omega)
          | succ k1 =>
            have hpc : p = 0 ∨ p = 1 ∨ p = 2 ∨ p = 3 ∨ p = 4 := by omega
            clear hp
            rcases hpc with rfl | rfl | rfl | rfl | rfl
            · have hnx : (Instr.next (.pointer (some ⟨kI, 0, none⟩)) true 0).run Tryd.prog wr = .ok (.tuple #[.bool true, .int .i64 (0 : Nat), .int .i32 ((66 : UInt8).toNat : Int)]) (wr.iterAt kI (⟨#[66, 76, 82, 84]⟩ : ByteArray) (0 + 1)) := Lib.run_next_ascii_at wr kI (⟨#[66, 76, 82, 84]⟩ : ByteArray) 0 0 HK.out (by decide) (by decide)
              rw [show ((66 : UInt8).toNat : Int) = 66 from rfl] at hnx
              have HI2 := Aside0.mk (HST.out F' x1 wr (⟨#[66, 76, 82, 84]⟩ : ByteArray) 0 (0 + 1) kI HI.out HFk.out HK.out HWS.out)
              have HK2 := Aside0.mk (Lib.iterAt_heap wr kI (⟨#[66, 76, 82, 84]⟩ : ByteArray) 0 (0 + 1) HK.out)
              have HT2 := Aside0.mk (HT.out.trans (show SKept F wr (wr.iterAt kI (⟨#[66, 76, 82, 84]⟩ : ByteArray) (0 + 1)) from ⟨by rw [Lib.iterAt_size]; exact Nat.le_refl _, fun k hk => Lib.iterAt_other _ _ _ _ _ (HFF.out k hk).2⟩))
              have hcv : (convert 21 9 (.int .i32 66)).run Tryd.prog (wr.iterAt kI (⟨#[66, 76, 82, 84]⟩ : ByteArray) (0 + 1)) = .ok (.string (⟨#[66]⟩ : ByteArray)) (wr.iterAt kI (⟨#[66, 76, 82, 84]⟩ : ByteArray) (0 + 1)) := by rfl
              obtain ⟨HA1, HA2⟩ := HA.out
              have hpart : schP (schL n) (a + 1) (c + 1) s 66 = schL n (a + 1) c (s ++ (⟨#[66]⟩ : ByteArray)) := by unfold schP; simp
              have hrest : rest = schL n (a + 1) c (s ++ (⟨#[66]⟩ : ByteArray)) ++ (([66, 76, 82, 84] : List UInt8).drop (0 + 1)).foldr (fun ch r => schP (schL n) (a + 1) (c + 1) s ch ++ r) [] := by rw [← hpart]; exact HA2
              rw [hrest, runL_append] at HA1
              obtain ⟨⟨b1, x2⟩, hr1, hr2⟩ := Option.bind_eq_some_iff.1 HA1
              have HR1 := Aside0.mk hr1
              have HR2 := Aside0.mk hr2
              clear HA HA1 HA2 hpart hrest HI HK HT hr1 hr2
              generalize wr.iterAt kI (⟨#[66, 76, 82, 84]⟩ : ByteArray) (0 + 1) = w3 at hnx HI2 HK2 HT2 hcv ⊢
              cases b1 with
              | true =>
                have h2 := HR2.out
                rw [if_pos rfl] at h2
                injection h2 with h2
                injection h2 with h2 h3
                subst h2 h3
                clear HR2
                go_wp2_with (go_at_call 61; ( refine (HIH.out (a + 1) c (s ++ (⟨#[66]⟩ : ByteArray)) x1 x2 true F' _ ?z0 ?z1 HI2.out HR1.out).mono ?_); (case z0 => have := HC.out; omega); (case z1 => have := HS.out; rw [ByteArray.size_append]; show s.size + 1 + n ≤ 100; omega); rintro e w4 ⟨rfl, hI4, hk4⟩; have HI4 := Aside0.mk hI4; have HK4 := Aside0.mk hk4; clear hI4 hk4)
                go_ret
                exact ⟨rfl, HLE.out _ _ _ _ HI4.out (fun k hk => (HFF.out k hk).1), HT2.out.trans (HK4.out.sub (fun k hk => (HFF.out k hk).1))⟩
              | false =>
                have h2 := HR2.out
                rw [if_neg (by simp)] at h2
                have HR3 := Aside0.mk h2
                clear HR2 h2
                go_wp2_with (go_at_call 61; ( refine (HIH.out (a + 1) c (s ++ (⟨#[66]⟩ : ByteArray)) x1 x2 false F' _ ?z0 ?z1 HI2.out HR1.out).mono ?_); (case z0 => have := HC.out; omega); (case z1 => have := HS.out; rw [ByteArray.size_append]; show s.size + 1 + n ≤ 100; omega); rintro e w4 ⟨rfl, hI4, hk4⟩; have HI4 := Aside0.mk hI4; have HK4 := Aside0.mk hk4; clear hI4 hk4)
                go_roundg k1
                case measure => omega
                case rel => exact ⟨0 + 1, _, x2, ⟨by have := HP.out; omega, by omega⟩, ⟨(HK4.out.2 kI HFk.out).trans HK2.out⟩, HI4, ⟨HT2.out.trans (HK4.out.sub (fun k hk => (HFF.out k hk).1))⟩, ⟨HR3.out, rfl⟩⟩
            · have hnx : (Instr.next (.pointer (some ⟨kI, 0, none⟩)) true 0).run Tryd.prog wr = .ok (.tuple #[.bool true, .int .i64 (1 : Nat), .int .i32 ((76 : UInt8).toNat : Int)]) (wr.iterAt kI (⟨#[66, 76, 82, 84]⟩ : ByteArray) (1 + 1)) := Lib.run_next_ascii_at wr kI (⟨#[66, 76, 82, 84]⟩ : ByteArray) 1 0 HK.out (by decide) (by decide)
              rw [show ((76 : UInt8).toNat : Int) = 76 from rfl] at hnx
              have HI2 := Aside0.mk (HST.out F' x1 wr (⟨#[66, 76, 82, 84]⟩ : ByteArray) 1 (1 + 1) kI HI.out HFk.out HK.out HWS.out)
              have HK2 := Aside0.mk (Lib.iterAt_heap wr kI (⟨#[66, 76, 82, 84]⟩ : ByteArray) 1 (1 + 1) HK.out)
              have HT2 := Aside0.mk (HT.out.trans (show SKept F wr (wr.iterAt kI (⟨#[66, 76, 82, 84]⟩ : ByteArray) (1 + 1)) from ⟨by rw [Lib.iterAt_size]; exact Nat.le_refl _, fun k hk => Lib.iterAt_other _ _ _ _ _ (HFF.out k hk).2⟩))
              have hcv : (convert 21 9 (.int .i32 76)).run Tryd.prog (wr.iterAt kI (⟨#[66, 76, 82, 84]⟩ : ByteArray) (1 + 1)) = .ok (.string (⟨#[76]⟩ : ByteArray)) (wr.iterAt kI (⟨#[66, 76, 82, 84]⟩ : ByteArray) (1 + 1)) := by rfl
              obtain ⟨HA1, HA2⟩ := HA.out
              have hpart : schP (schL n) (a + 1) (c + 1) s 76 = schL n a (c + 1) (s ++ (⟨#[76]⟩ : ByteArray)) := by unfold schP; simp
              have hrest : rest = schL n a (c + 1) (s ++ (⟨#[76]⟩ : ByteArray)) ++ (([66, 76, 82, 84] : List UInt8).drop (1 + 1)).foldr (fun ch r => schP (schL n) (a + 1) (c + 1) s ch ++ r) [] := by rw [← hpart]; exact HA2
              rw [hrest, runL_append] at HA1
              obtain ⟨⟨b1, x2⟩, hr1, hr2⟩ := Option.bind_eq_some_iff.1 HA1
              have HR1 := Aside0.mk hr1
              have HR2 := Aside0.mk hr2
              clear HA HA1 HA2 hpart hrest HI HK HT hr1 hr2
              generalize wr.iterAt kI (⟨#[66, 76, 82, 84]⟩ : ByteArray) (1 + 1) = w3 at hnx HI2 HK2 HT2 hcv ⊢
              cases b1 with
              | true =>
                have h2 := HR2.out
                rw [if_pos rfl] at h2
                injection h2 with h2
                injection h2 with h2 h3
                subst h2 h3
                clear HR2
                go_wp2_with (go_at_call 61; ( refine (HIH.out a (c + 1) (s ++ (⟨#[76]⟩ : ByteArray)) x1 x2 true F' _ ?z0 ?z1 HI2.out HR1.out).mono ?_); (case z0 => have := HC.out; omega); (case z1 => have := HS.out; rw [ByteArray.size_append]; show s.size + 1 + n ≤ 100; omega); rintro e w4 ⟨rfl, hI4, hk4⟩; have HI4 := Aside0.mk hI4; have HK4 := Aside0.mk hk4; clear hI4 hk4)
                go_ret
                exact ⟨rfl, HLE.out _ _ _ _ HI4.out (fun k hk => (HFF.out k hk).1), HT2.out.trans (HK4.out.sub (fun k hk => (HFF.out k hk).1))⟩
              | false =>
                have h2 := HR2.out
                rw [if_neg (by simp)] at h2
                have HR3 := Aside0.mk h2
                clear HR2 h2
                go_wp2_with (go_at_call 61; ( refine (HIH.out a (c + 1) (s ++ (⟨#[76]⟩ : ByteArray)) x1 x2 false F' _ ?z0 ?z1 HI2.out HR1.out).mono ?_); (case z0 => have := HC.out; omega); (case z1 => have := HS.out; rw [ByteArray.size_append]; show s.size + 1 + n ≤ 100; omega); rintro e w4 ⟨rfl, hI4, hk4⟩; have HI4 := Aside0.mk hI4; have HK4 := Aside0.mk hk4; clear hI4 hk4)
                go_roundg k1
                case measure => omega
                case rel => exact ⟨1 + 1, _, x2, ⟨by have := HP.out; omega, by omega⟩, ⟨(HK4.out.2 kI HFk.out).trans HK2.out⟩, HI4, ⟨HT2.out.trans (HK4.out.sub (fun k hk => (HFF.out k hk).1))⟩, ⟨HR3.out, rfl⟩⟩
            · have hnx : (Instr.next (.pointer (some ⟨kI, 0, none⟩)) true 0).run Tryd.prog wr = .ok (.tuple #[.bool true, .int .i64 (2 : Nat), .int .i32 ((82 : UInt8).toNat : Int)]) (wr.iterAt kI (⟨#[66, 76, 82, 84]⟩ : ByteArray) (2 + 1)) := Lib.run_next_ascii_at wr kI (⟨#[66, 76, 82, 84]⟩ : ByteArray) 2 0 HK.out (by decide) (by decide)
              rw [show ((82 : UInt8).toNat : Int) = 82 from rfl] at hnx
              have HI2 := Aside0.mk (HST.out F' x1 wr (⟨#[66, 76, 82, 84]⟩ : ByteArray) 2 (2 + 1) kI HI.out HFk.out HK.out HWS.out)
              have HK2 := Aside0.mk (Lib.iterAt_heap wr kI (⟨#[66, 76, 82, 84]⟩ : ByteArray) 2 (2 + 1) HK.out)
              have HT2 := Aside0.mk (HT.out.trans (show SKept F wr (wr.iterAt kI (⟨#[66, 76, 82, 84]⟩ : ByteArray) (2 + 1)) from ⟨by rw [Lib.iterAt_size]; exact Nat.le_refl _, fun k hk => Lib.iterAt_other _ _ _ _ _ (HFF.out k hk).2⟩))
              have hcv : (convert 21 9 (.int .i32 82)).run Tryd.prog (wr.iterAt kI (⟨#[66, 76, 82, 84]⟩ : ByteArray) (2 + 1)) = .ok (.string (⟨#[82]⟩ : ByteArray)) (wr.iterAt kI (⟨#[66, 76, 82, 84]⟩ : ByteArray) (2 + 1)) := by rfl
              obtain ⟨HA1, HA2⟩ := HA.out
              have hpart : schP (schL n) (a + 1) (c + 1) s 82 = schL n a (c + 1) (s ++ (⟨#[82]⟩ : ByteArray)) := by unfold schP; simp
              have hrest : rest = schL n a (c + 1) (s ++ (⟨#[82]⟩ : ByteArray)) ++ (([66, 76, 82, 84] : List UInt8).drop (2 + 1)).foldr (fun ch r => schP (schL n) (a + 1) (c + 1) s ch ++ r) [] := by rw [← hpart]; exact HA2
              rw [hrest, runL_append] at HA1
              obtain ⟨⟨b1, x2⟩, hr1, hr2⟩ := Option.bind_eq_some_iff.1 HA1
              have HR1 := Aside0.mk hr1
              have HR2 := Aside0.mk hr2
              clear HA HA1 HA2 hpart hrest HI HK HT hr1 hr2
              generalize wr.iterAt kI (⟨#[66, 76, 82, 84]⟩ : ByteArray) (2 + 1) = w3 at hnx HI2 HK2 HT2 hcv ⊢
              cases b1 with
              | true =>
                have h2 := HR2.out
                rw [if_pos rfl] at h2
                injection h2 with h2
                injection h2 with h2 h3
                subst h2 h3
                clear HR2
                go_wp2_with (go_at_call 61; ( refine (HIH.out a (c + 1) (s ++ (⟨#[82]⟩ : ByteArray)) x1 x2 true F' _ ?z0 ?z1 HI2.out HR1.out).mono ?_); (case z0 => have := HC.out; omega); (case z1 => have := HS.out; rw [ByteArray.size_append]; show s.size + 1 + n ≤ 100; omega); rintro e w4 ⟨rfl, hI4, hk4⟩; have HI4 := Aside0.mk hI4; have HK4 := Aside0.mk hk4; clear hI4 hk4)
                go_ret
                exact ⟨rfl, HLE.out _ _ _ _ HI4.out (fun k hk => (HFF.out k hk).1), HT2.out.trans (HK4.out.sub (fun k hk => (HFF.out k hk).1))⟩
              | false =>
                have h2 := HR2.out
                rw [if_neg (by simp)] at h2
                have HR3 := Aside0.mk h2
                clear HR2 h2
                go_wp2_with (go_at_call 61; ( refine (HIH.out a (c + 1) (s ++ (⟨#[82]⟩ : ByteArray)) x1 x2 false F' _ ?z0 ?z1 HI2.out HR1.out).mono ?_); (case z0 => have := HC.out; omega); (case z1 => have := HS.out; rw [ByteArray.size_append]; show s.size + 1 + n ≤ 100; omega); rintro e w4 ⟨rfl, hI4, hk4⟩; have HI4 := Aside0.mk hI4; have HK4 := Aside0.mk hk4; clear hI4 hk4)
                go_roundg k1
                case measure => omega
                case rel => exact ⟨2 + 1, _, x2, ⟨by have := HP.out; omega, by omega⟩, ⟨(HK4.out.2 kI HFk.out).trans HK2.out⟩, HI4, ⟨HT2.out.trans (HK4.out.sub (fun k hk => (HFF.out k hk).1))⟩, ⟨HR3.out, rfl⟩⟩
            · have hnx : (Instr.next (.pointer (some ⟨kI, 0, none⟩)) true 0).run Tryd.prog wr = .ok (.tuple #[.bool true, .int .i64 (3 : Nat), .int .i32 ((84 : UInt8).toNat : Int)]) (wr.iterAt kI (⟨#[66, 76, 82, 84]⟩ : ByteArray) (3 + 1)) := Lib.run_next_ascii_at wr kI (⟨#[66, 76, 82, 84]⟩ : ByteArray) 3 0 HK.out (by decide) (by decide)
              rw [show ((84 : UInt8).toNat : Int) = 84 from rfl] at hnx
              have HI2 := Aside0.mk (HST.out F' x1 wr (⟨#[66, 76, 82, 84]⟩ : ByteArray) 3 (3 + 1) kI HI.out HFk.out HK.out HWS.out)
              have HK2 := Aside0.mk (Lib.iterAt_heap wr kI (⟨#[66, 76, 82, 84]⟩ : ByteArray) 3 (3 + 1) HK.out)
              have HT2 := Aside0.mk (HT.out.trans (show SKept F wr (wr.iterAt kI (⟨#[66, 76, 82, 84]⟩ : ByteArray) (3 + 1)) from ⟨by rw [Lib.iterAt_size]; exact Nat.le_refl _, fun k hk => Lib.iterAt_other _ _ _ _ _ (HFF.out k hk).2⟩))
              have hcv : (convert 21 9 (.int .i32 84)).run Tryd.prog (wr.iterAt kI (⟨#[66, 76, 82, 84]⟩ : ByteArray) (3 + 1)) = .ok (.string (⟨#[84]⟩ : ByteArray)) (wr.iterAt kI (⟨#[66, 76, 82, 84]⟩ : ByteArray) (3 + 1)) := by rfl
              obtain ⟨HA1, HA2⟩ := HA.out
              have hpart : schP (schL n) (a + 1) (c + 1) s 84 = schL n (a + 1) c (s ++ (⟨#[84]⟩ : ByteArray)) := by unfold schP; simp
              have hrest : rest = schL n (a + 1) c (s ++ (⟨#[84]⟩ : ByteArray)) ++ (([66, 76, 82, 84] : List UInt8).drop (3 + 1)).foldr (fun ch r => schP (schL n) (a + 1) (c + 1) s ch ++ r) [] := by rw [← hpart]; exact HA2
              rw [hrest, runL_append] at HA1
              obtain ⟨⟨b1, x2⟩, hr1, hr2⟩ := Option.bind_eq_some_iff.1 HA1
              have HR1 := Aside0.mk hr1
              have HR2 := Aside0.mk hr2
              clear HA HA1 HA2 hpart hrest HI HK HT hr1 hr2
              generalize wr.iterAt kI (⟨#[66, 76, 82, 84]⟩ : ByteArray) (3 + 1) = w3 at hnx HI2 HK2 HT2 hcv ⊢
              cases b1 with
              | true =>
                have h2 := HR2.out
                rw [if_pos rfl] at h2
                injection h2 with h2
                injection h2 with h2 h3
                subst h2 h3
                clear HR2
                go_wp2_with (go_at_call 61; ( refine (HIH.out (a + 1) c (s ++ (⟨#[84]⟩ : ByteArray)) x1 x2 true F' _ ?z0 ?z1 HI2.out HR1.out).mono ?_); (case z0 => have := HC.out; omega); (case z1 => have := HS.out; rw [ByteArray.size_append]; show s.size + 1 + n ≤ 100; omega); rintro e w4 ⟨rfl, hI4, hk4⟩; have HI4 := Aside0.mk hI4; have HK4 := Aside0.mk hk4; clear hI4 hk4)
                go_ret
                exact ⟨rfl, HLE.out _ _ _ _ HI4.out (fun k hk => (HFF.out k hk).1), HT2.out.trans (HK4.out.sub (fun k hk => (HFF.out k hk).1))⟩
              | false =>
                have h2 := HR2.out
                rw [if_neg (by simp)] at h2
                have HR3 := Aside0.mk h2
                clear HR2 h2
                go_wp2_with (go_at_call 61; ( refine (HIH.out (a + 1) c (s ++ (⟨#[84]⟩ : ByteArray)) x1 x2 false F' _ ?z0 ?z1 HI2.out HR1.out).mono ?_); (case z0 => have := HC.out; omega); (case z1 => have := HS.out; rw [ByteArray.size_append]; show s.size + 1 + n ≤ 100; omega); rintro e w4 ⟨rfl, hI4, hk4⟩; have HI4 := Aside0.mk hI4; have HK4 := Aside0.mk hk4; clear hI4 hk4)
                go_roundg k1
                case measure => omega
                case rel => exact ⟨3 + 1, _, x2, ⟨by have := HP.out; omega, by omega⟩, ⟨(HK4.out.2 kI HFk.out).trans HK2.out⟩, HI4, ⟨HT2.out.trans (HK4.out.sub (fun k hk => (HFF.out k hk).1))⟩, ⟨HR3.out, rfl⟩⟩
            · have hnx : (Instr.next (.pointer (some ⟨kI, 0, none⟩)) true 0).run Tryd.prog wr = .ok (.tuple #[.bool false]) wr := Lib.run_next_end_at wr kI (⟨#[66, 76, 82, 84]⟩ : ByteArray) 4 0 HK.out (by decide)
              obtain ⟨HA1, HA2⟩ := HA.out
              have hnil : rest = [] := HA2
              rw [hnil, runL] at HA1
              injection HA1 with HA1
              injection HA1 with h2 h3
              subst h2 h3
              clear HA HA2 hnil
              go_wp2
              go_ret
              exact ⟨rfl, HLE.out _ _ _ _ HI.out (fun k hk => (HFF.out k hk).1), HT.out⟩
/-! ### impl_SchemesOf -/
def impl_SchemesOf.f (k : Nat) (a0 a1 : Int) : Option (List ByteArray × Int) := (impl_isSheet.f a0 a1).bind fun b => if b = true then ((impl_halvings.f k a0).bind fun x => (impl_halvings.f k a1).bind fun y => if 0 ≤ x ∧ x ≤ 3 ∧ 0 ≤ y ∧ y ≤ 3 ∧ (schL (x.toNat + y.toNat) x.toNat y.toNat (⟨#[]⟩ : ByteArray)).length ≤ 100000 then some (schL (x.toNat + y.toNat) x.toNat y.toNat (⟨#[]⟩ : ByteArray), 0) else none) else some (([] : List ByteArray), 1)
theorem impl_SchemesOf.mono : ∀ a0 a1 k, LeO (impl_SchemesOf.f k a0 a1) (impl_SchemesOf.f (k + 1) a0 a1) := by
  intro a0 a1 k
  unfold impl_SchemesOf.f
  exact LeO.bind (LeO.refl _) (fun _ => LeO.ite (LeO.bind (impl_halvings.mono _ _) (fun _ => LeO.bind (impl_halvings.mono _ _) (fun _ => LeO.refl _))) (LeO.refl _))
def SInv (w : World) (F : Nat → Prop) (b : Nat) (l : List ByteArray) (W : World) : Prop := Below w.heap.size w W ∧ (∀ k, F k → k < W.heap.size ∧ k ≠ b) ∧ w.heap.size ≤ b ∧ ∃ v, W.heap[b]? = some (.cells #[v] 41 (0, 0)) ∧ Kd.R Kd.string 9 W w.heap.size (fun k => ¬ F k ∧ k ≠ b) v l
theorem SInv.iter {w : World} {F : Nat → Prop} {b : Nat} {l : List ByteArray} {W : World} (hI : SInv w F b l W) (s : ByteArray) : SInv w (fun k => F k ∨ k = W.heap.size) b l (W.alloc (.stringIter s 0)) ∧ (W.alloc (.stringIter s 0)).heap[W.heap.size]? = some (.stringIter s 0) ∧ SKept F W (W.alloc (.stringIter s 0)) := by
  obtain ⟨hB, hF, hb, v, hx, hR⟩ := hI
  have hlt := sk_lt hx
  refine ⟨⟨hB.alloc (below_size hB) _, fun k hk => ?_, hb, v, (Lib.alloc_old _ _ _ hlt).trans hx, ?_⟩, heap_alloc_new _ _, by simp, fun k hk => Lib.alloc_old _ _ _ (hF k hk).1⟩
  · rcases hk with hk | rfl
    · have := hF k hk
      exact ⟨by simp; omega, this.2⟩
    · exact ⟨by simp, by omega⟩
  · exact Kd.R_mono (Kd.R_alloc (Kd.R_bound hR) _) (fun k hk => ⟨fun hf => by rcases hf with hf | hf; exact hk.1.1 hf; have := hk.2.2.1; omega, hk.1.2⟩)
theorem SInv.step {w : World} {F : Nat → Prop} {b kI p q : Nat} {l : List ByteArray} {W : World} {s : ByteArray} (hI : SInv w F b l W) (hF' : F kI) (hk : W.heap[kI]? = some (.stringIter s p)) (hle : w.heap.size ≤ kI) : SInv w F b l (W.iterAt kI s q) ∧ (W.iterAt kI s q).heap[kI]? = some (.stringIter s q) := by
  obtain ⟨hB, hF, hb, v, hx, hR⟩ := hI
  refine ⟨⟨Lib.below_iterAt hB hle _ _, fun k hk => by rw [Lib.iterAt_size]; exact hF k hk, hb, v, (Lib.iterAt_other _ _ _ _ _ (fun e => (hF kI hF').2 e.symm)).trans hx, ?_⟩, Lib.iterAt_heap _ _ _ _ _ hk⟩
  exact Kd.R_move hR (fun k hk => Lib.iterAt_other _ _ _ _ _ (fun e => hk.1 (by rw [e]; exact hF')))
theorem SInv.less {w : World} {F F' : Nat → Prop} {b : Nat} {l : List ByteArray} {W : World} (hI : SInv w F' b l W) (hs : ∀ k, F k → F' k) : SInv w F b l W := by
  obtain ⟨hB, hF, hb, v, hx, hR⟩ := hI
  exact ⟨hB, fun k hk => hF k (hs k hk), hb, v, hx, Kd.R_mono hR (fun k hk => ⟨fun hf => hk.1 (hs k hf), hk.2⟩)⟩
theorem SInv.below {w : World} {F : Nat → Prop} {b : Nat} {l : List ByteArray} {W W' : World} (hI : SInv w F b l W) (hb : Below W.heap.size W W') : SInv w F b l W' := by
  obtain ⟨hB, hF, hb0, v, hx, hR⟩ := hI
  exact ⟨hB.trans (hb.mono (below_size hB)), fun k hk => ⟨Nat.lt_of_lt_of_le (hF k hk).1 (below_size hb), (hF k hk).2⟩, hb0, v, (hb.block _ (sk_lt hx)).trans hx, Kd.R_below hR hb⟩
theorem SInv.start {w w1 : World} (hB : Below w.heap.size w w1) : SInv w (fun _ => False) (w1.heap.size + 1) [] ((w1.alloc (.cells #[] 9)).alloc (.cells #[.slice (some ⟨w1.heap.size, 0, none⟩) 0 0] 41)) := by
  have hs := below_size hB
  have hz : (w1.alloc (.cells #[] 9)).heap.size = w1.heap.size + 1 := by simp
  have hg : ((w1.alloc (.cells #[] 9)).alloc (.cells #[.slice (some ⟨w1.heap.size, 0, none⟩) 0 0] 41)).heap[w1.heap.size]? = some (.cells #[] 9 (0, 0)) := (Lib.alloc_old _ _ _ (by omega)).trans (heap_alloc_new _ _)
  refine ⟨(hB.alloc hs _).alloc (by omega) _, fun k hk => hk.elim, by omega, _, by rw [← hz]; exact heap_alloc_new _ _, Kd.R_of_own (enc := Value.string) ⟨rfl, .inr ⟨w1.heap.size, 0, #[], rfl, hs, hg, Nat.le_refl _, by decide, rfl, rfl⟩⟩ (fun k hk => ⟨id, ?_⟩)⟩
  simp [Value.ownBlock] at hk
  omega
set_option maxHeartbeats 4000000 in
set_option maxRecDepth 100000 in
theorem st_cl (w : World) (F : Nat → Prop) (b : Nat) (l : List ByteArray) (s : ByteArray) (W : World) (hI : SInv w F b l W) (hl : l.length ≤ 100000) :
    Calls Tryd.prog 62 #[.string s, .pointer (some ⟨b, 0, none⟩)] W fun e W' => e = .returned (.bool false) ∧ SInv w F b (l ++ [s]) W' ∧ SKept F W W' := by
  obtain ⟨hB, hF, hb, v, hbx, hR⟩ := hI
  have hne : some b ≠ v.ownBlock := fun h => (hR.1 b h.symm).2 rfl
  have hc : W.cell? ⟨b, 0, none⟩ = some v := by
    rw [Lib.cell_of_heap hbx]
    rfl
  have HB := Aside0.mk hB
  have HF := Aside0.mk hF
  have HR := Aside0.mk hR
  have HX := Aside0.mk hbx
  have HN := Aside0.mk hne
  have HL := Aside0.mk hl
  have Hb := Aside0.mk hb
  clear hB hF hR hbx hne hl hb
  go_enter Tryd.func62, Tryd.ntmps62
  go_wp2_with ((with_reducible refine gate_builtin (b := .append) (xs := #[.tmp 4, .tmp 6]) rfl ?_); at_builtin; refine Kd.R_append Kd.string (w0 := w) w.heap.size rfl (.tmp 4) (.tmp 6) 41 9 (.string (⟨#[]⟩ : ByteArray)) 16 rfl Tryd.underlying41 info9 rfl (by decide) (by omega) v l s [.string s] (fun k => ¬ F k ∧ k ≠ b) (fun _ => False) rfl rfl ?aP (fun _ hk => hk.elim) ?aF HR.out HB.out ?aS ?aL ?_; (case aP => exact rfl); (case aF => exact (fun k hk => ⟨fun hf => by have := (HF.out k hf).1; omega, by have := sk_lt HX.out; omega⟩)); (case aS => exact below_size HB.out); (case aL => have := HL.out; omega); intro v1 w1 ho hb1 hg hat; obtain ⟨A1, c1, rfl⟩ := Kd.R_slice ho; have HX1 := Aside0.mk (blk_grown (g := b) HX.out hg HN.out); have hc1 : w1.cell? ⟨b, 0, none⟩ = some v := (Lib.cell_of_heap HX1.out 0).trans rfl; have hf1 : w1.frozen? ⟨b, 0, none⟩ = false := Lib.frozen_of_heap HX1.out 0; have HO := Aside0.mk ho; have HG := Aside0.mk hg; have HB1 := Aside0.mk hb1; clear ho hb1 hg hat)
  go_ret
  have hO2 := HO.out
  rw [show (l ++ [s]).length = l.length + 1 by simp] at hO2
  have hsz : W.heap.size ≤ w1.heap.size := HG.out.size
  have hfar : ∀ k, F k → (w1.setCell ⟨b, 0, none⟩ (.slice A1 (l.length + 1) c1)).heap[k]? = W.heap[k]? := fun k hk => (Below.heap_setCell w1 ⟨b, 0, none⟩ _ k (HF.out k hk).2).trans (HG.out.block k (HF.out k hk).1 (fun e => (HR.out.1 k e.symm).1 hk))
  exact ⟨rfl, ⟨below_set HB1.out Hb.out, fun k hk => ⟨by have := (HF.out k hk).1; simp; omega, (HF.out k hk).2⟩, Hb.out, _, blk_set HX1.out 0 _, Kd.R_far hO2 (fun k hk => hk.2) _⟩, by simp; exact hsz, hfar⟩

def so_p (s : ByteArray) (l : List ByteArray) : Option (Bool × List ByteArray) := if l.length ≤ 100000 then some (false, l ++ [s]) else none
theorem so_run : ∀ (m l : List ByteArray), l.length + m.length ≤ 100000 → runL so_p m l = some (false, l ++ m)
  | [], l, _ => by rw [runL, List.append_nil]
  | s :: t, l, h => by
    rw [List.length_cons] at h
    rw [runL, so_p, if_pos (by omega)]
    simp only [Option.bind_some, Bool.false_eq_true, if_false]
    rw [so_run t (l ++ [s]) (by rw [List.length_append, List.length_singleton]; omega), List.append_assoc]
    rfl
set_option maxHeartbeats 4000000 in
set_option maxRecDepth 100000 in
theorem impl_SchemesOf.calls (k : Nat) (a0 : Int) (a1 : Int) (r1 : List ByteArray) (r2 : Int) (w : World) (h : impl_SchemesOf.f k a0 a1 = some (r1, r2)) :
    Calls Tryd.prog 26 #[.int .i64 a0, .int .i64 a1] w fun e w' => ∃ v0_ : Value, e = .returned (.tuple #[v0_, .int .i64 r2]) ∧ Kd.R Kd.string 9 w' w.heap.size (fun _ => True) v0_ r1 ∧ Below w.heap.size w w' := by
  unfold impl_SchemesOf.f at h
  obtain ⟨t, ht, h0⟩ := Option.bind_eq_some_iff.1 h
  clear h
  have h := h0
  clear h0
  have HT := Aside0.mk ht
  clear ht
  have hmf : ∀ (fn : Fn) (first cap : Array Value) (w : World), (Instr.makeFunc fn first cap).run Tryd.prog w = .ok (.func fn first cap) w := fun _ _ _ _ => rfl
  cases t with
  | false =>
    rw [if_neg (by simp)] at h
    injection h with h
    injection h with e1 e2
    subst e1 e2
    go_enter Tryd.func26, Tryd.ntmps26
    go_wp2_with (go_at_call 41; (with_reducible refine (impl_isSheet.calls a0 a1 false _ HT.out).mono ?_); rintro e w1 ⟨rfl, hb1⟩; have HB1 := Aside0.mk hb1; clear hb1)
    go_ret2
    obtain ⟨nd, rfl⟩ := HB1.out
    exact ⟨_, rfl, Kd.R_nil _ _ _ _ _, pw_below_drewN (Below.refl _ _) _⟩
  | true =>
    rw [if_pos rfl] at h
    obtain ⟨x, hx, h2⟩ := Option.bind_eq_some_iff.1 h
    clear h
    obtain ⟨y, hy, h⟩ := Option.bind_eq_some_iff.1 h2
    clear h2
    by_cases hc : 0 ≤ x ∧ x ≤ 3 ∧ 0 ≤ y ∧ y ≤ 3 ∧ (schL (x.toNat + y.toNat) x.toNat y.toNat (⟨#[]⟩ : ByteArray)).length ≤ 100000
    · rw [if_pos hc] at h
      obtain ⟨p, rfl⟩ := Int.eq_ofNat_of_zero_le hc.1
      obtain ⟨q, rfl⟩ := Int.eq_ofNat_of_zero_le hc.2.2.1
      simp only [Int.toNat_natCast] at h hc
      injection h with h
      injection h with e1 e2
      subst e1 e2
      have HX := Aside0.mk hx
      have HY := Aside0.mk hy
      have HC := Aside0.mk hc
      clear hx hy hc
      go_enter Tryd.func26, Tryd.ntmps26
      go_wp2_with (first | (go_at_call 41; (with_reducible refine (impl_isSheet.calls a0 a1 true _ HT.out).mono ?_); rintro e w1 ⟨rfl, ⟨nd, rfl⟩⟩; have HB1 := Aside0.mk (pw_below_drewN (Below.refl w.heap.size w) nd); generalize w.drewN nd = w1 at HB1 ⊢))
      have HI0 := Aside0.mk (SInv.start HB1.out)
      obtain ⟨g, hg⟩ : ∃ g : Nat, w1.heap.size = g := ⟨_, rfl⟩
      rw [hg] at HI0 ⊢
      generalize (w1.alloc (.cells #[] 9)).alloc (.cells #[.slice (some ⟨g, 0, none⟩) 0 0] 41) = w2 at HI0 ⊢
      refine (impl_halvings.calls k a0 p _ HX.out).mono ?_
      rintro e w3 ⟨rfl, hd3⟩
      obtain ⟨nd3, rfl⟩ := hd3
      have HI3 := Aside0.mk (HI0.out.below (pw_below_drewN (Below.refl _ _) nd3))
      clear HI0
      generalize w2.drewN nd3 = w3 at HI3 ⊢
      go_wp2_with fail
      refine (impl_halvings.calls k a1 q _ HY.out).mono ?_
      rintro e w4 ⟨rfl, hd4⟩
      obtain ⟨nd4, rfl⟩ := hd4
      have HI4 := Aside0.mk (HI3.out.below (pw_below_drewN (Below.refl _ _) nd4))
      clear HI3
      generalize w3.drewN nd4 = w4 at HI4 ⊢
      go_wp2_with fail
      refine (sc_calls (CF := 62) #[.pointer (some ⟨g + 1, 0, none⟩)] so_p (fun F l W => SInv w F (g + 1) l W) w Tryd.func62 (by kernel_rfl) rfl (fun F x W h => ⟨below_size h.1, fun k hk => (h.2.1 k hk).1⟩) (fun F x W s h => (h.iter s).1) (fun F x W s p q kI h hk hq hl => (SInv.step (q := q) h hk hq hl).1) (fun F F' x W h hs => h.less hs) (fun F x W s b y h hp => by
        unfold so_p at hp
        by_cases hl : x.length ≤ 100000
        · rw [if_pos hl] at hp
          injection hp with hp
          injection hp with e1 e2
          subst e1 e2
          exact st_cl w F (g + 1) x s W h hl
        · rw [if_neg hl] at hp; cases hp) (p + q) p q (⟨#[]⟩ : ByteArray) [] _ false (fun _ => False) _ rfl (by have := HC.out; show 0 + (p + q) ≤ 100; omega) HI4.out (so_run _ _ (by have := HC.out; rw [List.length_nil]; omega))).mono ?_
      rintro e w5 ⟨rfl, hI5, _⟩
      obtain ⟨hB5, _, _, v5, hx5, hR5⟩ := hI5
      rw [List.nil_append] at hR5
      have hc5 : w5.cell? ⟨g + 1, 0, none⟩ = some v5 := (Lib.cell_of_heap hx5 0).trans rfl
      obtain ⟨A5, c5, rfl⟩ := Kd.R_slice hR5
      have HR5 := Aside0.mk hR5
      have HB5 := Aside0.mk hB5
      clear hR5 hB5 hx5
      go_wp2
      go_ret2
      exact ⟨_, rfl, Kd.R_mono HR5.out (fun _ _ => trivial), HB5.out⟩
    · rw [if_neg hc] at h; cases h

/-! ### spec_l04Power: function 40 -/
def spec_l04Power.f (a0 : Int) : Option (Int × Bool) := if a0 = 1 then (some (0, true)) else (if a0 = 2 then (some (1, true)) else (if a0 = 4 then (some (2, true)) else (if a0 = 8 then (some (3, true)) else (some (0, false)))))
set_option maxHeartbeats 8000000 in
set_option maxRecDepth 100000 in
theorem spec_l04Power.calls (a0 : Int) (r1 : Int) (r2 : Bool) (w : World) (h : spec_l04Power.f a0 = some (r1, r2)) :
    Calls Tryd.prog 40 #[.int .i64 a0] w fun e w' => e = .returned (.tuple #[.int .i64 r1, .bool r2]) ∧ Drawn0 w w' := by
  have H : (if a0 = 1 then (some (0, true)) else (if a0 = 2 then (some (1, true)) else (if a0 = 4 then (some (2, true)) else (if a0 = 8 then (some (3, true)) else (some (0, false)))))) = some (r1, r2) := h
  clear h
  by_cases c2 : a0 = 1
  · rw [if_pos c2] at H
    have c2b0 : (a0 == 1) = true := beq_iff_eq.mpr c2
    have c2b1 : (a0 != 1) = false := bne_eq_false_iff_eq.mpr c2
    clear c2
    simp only [Option.some.injEq, Prod.mk.injEq] at H
    obtain ⟨rfl, rfl⟩ := H
    go_enter Tryd.func40, Tryd.ntmps40
    go_wp2
    go_ret2
    exact ⟨by first | rfl | (simp only [Go.IntWalk.i64_left]; first | done | rfl) | (simp; done) | (simp [*]; done), by repeat (first | exact Drawn0.refl _ | apply Drawn0.step)⟩
  · rw [if_neg c2] at H
    have c2b0 : (a0 == 1) = false := beq_eq_false_iff_ne.mpr c2
    have c2b1 : (a0 != 1) = true := bne_iff_ne.mpr c2
    by_cases c3 : a0 = 2
    · rw [if_pos c3] at H
      have c3b0 : (a0 == 2) = true := beq_iff_eq.mpr c3
      have c3b1 : (a0 != 2) = false := bne_eq_false_iff_eq.mpr c3
      clear c3
      simp only [Option.some.injEq, Prod.mk.injEq] at H
      obtain ⟨rfl, rfl⟩ := H
      go_enter Tryd.func40, Tryd.ntmps40
      go_wp2
      go_ret2
      exact ⟨by first | rfl | (simp only [Go.IntWalk.i64_left]; first | done | rfl) | (simp; done) | (simp [*]; done), by repeat (first | exact Drawn0.refl _ | apply Drawn0.step)⟩
    · rw [if_neg c3] at H
      have c3b0 : (a0 == 2) = false := beq_eq_false_iff_ne.mpr c3
      have c3b1 : (a0 != 2) = true := bne_iff_ne.mpr c3
      by_cases c4 : a0 = 4
      · rw [if_pos c4] at H
        have c4b0 : (a0 == 4) = true := beq_iff_eq.mpr c4
        have c4b1 : (a0 != 4) = false := bne_eq_false_iff_eq.mpr c4
        clear c4
        simp only [Option.some.injEq, Prod.mk.injEq] at H
        obtain ⟨rfl, rfl⟩ := H
        go_enter Tryd.func40, Tryd.ntmps40
        go_wp2
        go_ret2
        exact ⟨by first | rfl | (simp only [Go.IntWalk.i64_left]; first | done | rfl) | (simp; done) | (simp [*]; done), by repeat (first | exact Drawn0.refl _ | apply Drawn0.step)⟩
      · rw [if_neg c4] at H
        have c4b0 : (a0 == 4) = false := beq_eq_false_iff_ne.mpr c4
        have c4b1 : (a0 != 4) = true := bne_iff_ne.mpr c4
        by_cases c5 : a0 = 8
        · rw [if_pos c5] at H
          have c5b0 : (a0 == 8) = true := beq_iff_eq.mpr c5
          have c5b1 : (a0 != 8) = false := bne_eq_false_iff_eq.mpr c5
          clear c5
          simp only [Option.some.injEq, Prod.mk.injEq] at H
          obtain ⟨rfl, rfl⟩ := H
          go_enter Tryd.func40, Tryd.ntmps40
          go_wp2
          go_ret2
          exact ⟨by first | rfl | (simp only [Go.IntWalk.i64_left]; first | done | rfl) | (simp; done) | (simp [*]; done), by repeat (first | exact Drawn0.refl _ | apply Drawn0.step)⟩
        · rw [if_neg c5] at H
          have c5b0 : (a0 == 8) = false := beq_eq_false_iff_ne.mpr c5
          have c5b1 : (a0 != 8) = true := bne_iff_ne.mpr c5
          simp only [Option.some.injEq, Prod.mk.injEq] at H
          obtain ⟨rfl, rfl⟩ := H
          go_enter Tryd.func40, Tryd.ntmps40
          go_wp2
          go_ret2
          exact ⟨by first | rfl | (simp only [Go.IntWalk.i64_left]; first | done | rfl) | (simp; done) | (simp [*]; done), by repeat (first | exact Drawn0.refl _ | apply Drawn0.step)⟩

/-! ### spec_l04Sheet: function 63 -/
def spec_l04Sheet.f (a0 : Int) (a1 : Int) : Option (Bool) := (spec_l04Power.f a0).bind fun bt181 => ((spec_l04Power.f a1).bind fun bt183 => (if bt181.2 = true then (some bt183.2) else (some false)))
set_option maxHeartbeats 8000000 in
set_option maxRecDepth 100000 in
theorem spec_l04Sheet.calls (a0 : Int) (a1 : Int) (r : Bool) (w : World) (h : spec_l04Sheet.f a0 a1 = some r) :
    Calls Tryd.prog 63 #[.int .i64 a0, .int .i64 a1] w fun e w' => e = .returned (.bool r) ∧ Drawn0 w w' := by
  have H : ((spec_l04Power.f a0).bind fun bt181 => ((spec_l04Power.f a1).bind fun bt183 => (if bt181.2 = true then (some bt183.2) else (some false)))) = some r := h
  clear h
  replace H := Option.bind_eq_some_iff.mp H
  obtain ⟨⟨t181, t182⟩, A30, H⟩ := H
  replace H : ((spec_l04Power.f a1).bind fun bt183 => (if t182 = true then (some bt183.2) else (some false))) = some r := H
  have A3 := Aside0.mk A30
  clear A30
  replace H := Option.bind_eq_some_iff.mp H
  obtain ⟨⟨t183, t184⟩, A40, H⟩ := H
  replace H : (if t182 = true then (some t184) else (some false)) = some r := H
  have A4 := Aside0.mk A40
  clear A40
  by_cases c5 : t182 = true
  · subst c5
    have H1 : (some t184) = some r := by rw [if_pos rfl] at H; exact H
    clear H
    have H := H1
    clear H1
    obtain rfl := Option.some.inj H
    go_enter Tryd.func63, Tryd.ntmps63
    go_wp2_with (first | ((with_reducible refine gate_callee (f := 40) rfl ?_); refine goesL_ (some 11) rfl rfl Tryd.func40 (by kernel_rfl) rfl #[.int .i64 a0] rfl (by (try simp only [List.map_toArray, List.map_cons, List.map_nil]); first | done | rfl | (simp only [List.length_drop, List.length_take]; rfl)) ?_; (with_reducible refine (spec_l04Power.calls a0 t181 true _ A3.out).mono ?_); rintro e w' ⟨rfl, ⟨nd, rfl⟩⟩; refine ⟨_, rfl, ?_⟩) | ((with_reducible refine gate_callee (f := 40) rfl ?_); refine goesL_ (some 16) rfl rfl Tryd.func40 (by kernel_rfl) rfl #[.int .i64 a1] rfl (by (try simp only [List.map_toArray, List.map_cons, List.map_nil]); first | done | rfl | (simp only [List.length_drop, List.length_take]; rfl)) ?_; (with_reducible refine (spec_l04Power.calls a1 t183 t184 _ A4.out).mono ?_); rintro e w' ⟨rfl, ⟨nd, rfl⟩⟩; refine ⟨_, rfl, ?_⟩))
    go_ret
    exact ⟨by first | rfl | (simp only [Go.IntWalk.i64_left]; first | done | rfl) | (simp; done) | (simp [*]; done), by repeat (first | exact Drawn0.refl _ | apply Drawn0.step)⟩
  · replace c5 := Bool.eq_false_iff.mpr c5
    subst c5
    have H1 : (some false) = some r := by rw [if_neg (show ¬ (false = true) by decide)] at H; exact H
    clear H
    have H := H1
    clear H1
    obtain rfl := Option.some.inj H
    go_enter Tryd.func63, Tryd.ntmps63
    go_wp2_with (first | ((with_reducible refine gate_callee (f := 40) rfl ?_); refine goesL_ (some 11) rfl rfl Tryd.func40 (by kernel_rfl) rfl #[.int .i64 a0] rfl (by (try simp only [List.map_toArray, List.map_cons, List.map_nil]); first | done | rfl | (simp only [List.length_drop, List.length_take]; rfl)) ?_; (with_reducible refine (spec_l04Power.calls a0 t181 false _ A3.out).mono ?_); rintro e w' ⟨rfl, ⟨nd, rfl⟩⟩; refine ⟨_, rfl, ?_⟩) | ((with_reducible refine gate_callee (f := 40) rfl ?_); refine goesL_ (some 16) rfl rfl Tryd.func40 (by kernel_rfl) rfl #[.int .i64 a1] rfl (by (try simp only [List.map_toArray, List.map_cons, List.map_nil]); first | done | rfl | (simp only [List.length_drop, List.length_take]; rfl)) ?_; (with_reducible refine (spec_l04Power.calls a1 t183 t184 _ A4.out).mono ?_); rintro e w' ⟨rfl, ⟨nd, rfl⟩⟩; refine ⟨_, rfl, ?_⟩))
    go_ret
    exact ⟨by first | rfl | (simp only [Go.IntWalk.i64_left]; first | done | rfl) | (simp; done) | (simp [*]; done), by repeat (first | exact Drawn0.refl _ | apply Drawn0.step)⟩

end Go.Proofs.YtijbccmcfagnfaaDoor.QFnSchemes
