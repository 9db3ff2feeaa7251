-- Written by own_print.py of this session's repo over the kit's print (its output, turned at some places).
import Derived.Test.YtijbccmcfagnfaaQFnExactSchemesOfx0
import Derived.Test.YtijbccmcfagnfaaQFnExactSchemesOfx1
namespace Go.Proofs.Ytijbccmcfagnfaa.QFnExactSchemesOf
open Go.RowKit Go.Proofs.YtijbccmcfagnfaaW.PrintWords Go.Proofs.YtijbccmcfagnfaaW.PrintLast Go.Proofs.YtijbccmcfagnfaaW.PrintMore
attribute [local go_sem] max2_int min2_int max_two min_two max_three min_three max_four min_four   -- for this text's walks alone
set_option linter.unusedVariables false
set_option linter.unusedSimpArgs false

/-! ### impl_SchemesOf -/
def schP (f : Nat → Nat → ByteArray → List ByteArray) (a c : Nat) (d : ByteArray) (ch : UInt8) : List ByteArray := if ch = 66 ∨ ch = 84 then (if 0 < c then f a (c - 1) (d ++ (⟨#[ch]⟩ : ByteArray)) else []) else (if 0 < a then f (a - 1) c (d ++ (⟨#[ch]⟩ : ByteArray)) else [])
def schL : Nat → Nat → Nat → ByteArray → List ByteArray
  | 0, _, _, d => [d]
  | n + 1, a, c, d => schP (schL n) a c d 66 ++ (schP (schL n) a c d 76 ++ (schP (schL n) a c d 82 ++ (schP (schL n) a c d 84 ++ [])))
def impl_SchemesOf.f (k : Nat) (a0 a1 : Int) : Option (List ByteArray × Int) := (impl_isSheet.f a0 a1).bind fun b => if b = true then ((impl_halvings.f k a0).bind fun x => (impl_halvings.f k a1).bind fun y => if 0 ≤ x ∧ x ≤ 3 ∧ 0 ≤ y ∧ y ≤ 3 ∧ (schL (x.toNat + y.toNat) x.toNat y.toNat (⟨#[]⟩ : ByteArray)).length ≤ 100000 then some (schL (x.toNat + y.toNat) x.toNat y.toNat (⟨#[]⟩ : ByteArray), 0) else none) else some (([] : List ByteArray), 1)
theorem impl_SchemesOf.mono : ∀ a0 a1 k, LeO (impl_SchemesOf.f k a0 a1) (impl_SchemesOf.f (k + 1) a0 a1) := by
  intro a0 a1 k
  unfold impl_SchemesOf.f
  exact LeO.bind (LeO.refl _) (fun _ => LeO.ite (LeO.bind (impl_halvings.mono _ _) (fun _ => LeO.bind (impl_halvings.mono _ _) (fun _ => LeO.refl _))) (LeO.refl _))
def SInv (w : World) (F : Nat → Prop) (b : Nat) (l : List ByteArray) (W : World) : Prop := Below w.heap.size w W ∧ (∀ k, F k → k < W.heap.size ∧ k ≠ b) ∧ w.heap.size ≤ b ∧ ∃ v, W.heap[b]? = some (.cells #[v] 25 (0, 0)) ∧ Kd.R Kd.string 9 W w.heap.size (fun k => ¬ F k ∧ k ≠ b) v l
def SKept (F : Nat → Prop) (W W' : World) : Prop := W.heap.size ≤ W'.heap.size ∧ ∀ k, F k → W'.heap[k]? = W.heap[k]?
theorem SKept.trans {F : Nat → Prop} {W W' W2 : World} (h : SKept F W W') (h2 : SKept F W' W2) : SKept F W W2 := ⟨Nat.le_trans h.1 h2.1, fun k hk => (h2.2 k hk).trans (h.2 k hk)⟩
theorem SKept.sub {F F' : Nat → Prop} {W W' : World} (h : SKept F' W W') (hs : ∀ k, F k → F' k) : SKept F W W' := ⟨h.1, fun k hk => h.2 k (hs k hk)⟩
theorem sk_lt {W : World} {b : Nat} {o : Obj} (h : W.heap[b]? = some o) : b < W.heap.size := (Array.getElem?_eq_some_iff.1 h).1
theorem SInv.iter {w : World} {F : Nat → Prop} {b : Nat} {l : List ByteArray} {W : World} (hI : SInv w F b l W) (s : ByteArray) : SInv w (fun k => F k ∨ k = W.heap.size) b l (W.alloc (.stringIter s 0)) ∧ (W.alloc (.stringIter s 0)).heap[W.heap.size]? = some (.stringIter s 0) ∧ SKept F W (W.alloc (.stringIter s 0)) := by
  obtain ⟨hB, hF, hb, v, hx, hR⟩ := hI
  have hlt := sk_lt hx
  refine ⟨⟨hB.alloc (below_size hB) _, fun k hk => ?_, hb, v, (Lib.alloc_old _ _ _ hlt).trans hx, ?_⟩, heap_alloc_new _ _, by simp, fun k hk => Lib.alloc_old _ _ _ (hF k hk).1⟩
  · rcases hk with hk | rfl
    · have := hF k hk
      exact ⟨by simp; omega, this.2⟩
    · exact ⟨by simp, by omega⟩
  · exact Kd.R_mono (Kd.R_alloc (Kd.R_bound hR) _) (fun k hk => ⟨fun hf => by rcases hf with hf | hf; exact hk.1.1 hf; have := hk.2.2.1; omega, hk.1.2⟩)
theorem SInv.step {w : World} {F : Nat → Prop} {b kI p q : Nat} {l : List ByteArray} {W : World} {s : ByteArray} (hI : SInv w F b l W) (hF' : F kI) (hk : W.heap[kI]? = some (.stringIter s p)) (hle : w.heap.size ≤ kI) : SInv w F b l (W.iterAt kI s q) ∧ (W.iterAt kI s q).heap[kI]? = some (.stringIter s q) := by
  obtain ⟨hB, hF, hb, v, hx, hR⟩ := hI
  refine ⟨⟨Lib.below_iterAt hB hle _ _, fun k hk => by rw [Lib.iterAt_size]; exact hF k hk, hb, v, (Lib.iterAt_other _ _ _ _ _ (fun e => (hF kI hF').2 e.symm)).trans hx, ?_⟩, Lib.iterAt_heap _ _ _ _ _ hk⟩
  exact Kd.R_move hR (fun k hk => Lib.iterAt_other _ _ _ _ _ (fun e => hk.1 (by rw [e]; exact hF')))
theorem SInv.less {w : World} {F F' : Nat → Prop} {b : Nat} {l : List ByteArray} {W : World} (hI : SInv w F' b l W) (hs : ∀ k, F k → F' k) : SInv w F b l W := by
  obtain ⟨hB, hF, hb, v, hx, hR⟩ := hI
  exact ⟨hB, fun k hk => hF k (hs k hk), hb, v, hx, Kd.R_mono hR (fun k hk => ⟨fun hf => hk.1 (hs k hf), hk.2⟩)⟩
theorem SInv.below {w : World} {F : Nat → Prop} {b : Nat} {l : List ByteArray} {W W' : World} (hI : SInv w F b l W) (hb : Below W.heap.size W W') : SInv w F b l W' := by
  obtain ⟨hB, hF, hb0, v, hx, hR⟩ := hI
  exact ⟨hB.trans (hb.mono (below_size hB)), fun k hk => ⟨Nat.lt_of_lt_of_le (hF k hk).1 (below_size hb), (hF k hk).2⟩, hb0, v, (hb.block _ (sk_lt hx)).trans hx, Kd.R_below hR hb⟩
theorem SInv.start {w w1 : World} (hB : Below w.heap.size w w1) : SInv w (fun _ => False) (w1.heap.size + 1) [] ((w1.alloc (.cells #[] 9)).alloc (.cells #[.slice (some ⟨w1.heap.size, 0, none⟩) 0 0] 25)) := by
  have hs := below_size hB
  have hz : (w1.alloc (.cells #[] 9)).heap.size = w1.heap.size + 1 := by simp
  have hg : ((w1.alloc (.cells #[] 9)).alloc (.cells #[.slice (some ⟨w1.heap.size, 0, none⟩) 0 0] 25)).heap[w1.heap.size]? = some (.cells #[] 9 (0, 0)) := (Lib.alloc_old _ _ _ (by omega)).trans (heap_alloc_new _ _)
  refine ⟨(hB.alloc hs _).alloc (by omega) _, fun k hk => hk.elim, by omega, _, by rw [← hz]; exact heap_alloc_new _ _, Kd.R_of_own (enc := Value.string) ⟨rfl, .inr ⟨w1.heap.size, 0, #[], rfl, hs, hg, Nat.le_refl _, by decide, rfl, rfl⟩⟩ (fun k hk => ⟨id, ?_⟩)⟩
  simp [Value.ownBlock] at hk
  omega
set_option maxHeartbeats 4000000 in
set_option maxRecDepth 100000 in
theorem st_cl (w : World) (F : Nat → Prop) (b : Nat) (l : List ByteArray) (s : ByteArray) (W : World) (hI : SInv w F b l W) (hl : l.length ≤ 100000) :
    Calls Try.prog 24 #[.string s, .pointer (some ⟨b, 0, none⟩)] W fun e W' => e = .returned (.bool false) ∧ SInv w F b (l ++ [s]) W' ∧ SKept F W W' := by
  obtain ⟨hB, hF, hb, v, hbx, hR⟩ := hI
  have hne : some b ≠ v.ownBlock := fun h => (hR.1 b h.symm).2 rfl
  have hc : W.cell? ⟨b, 0, none⟩ = some v := by
    rw [Lib.cell_of_heap hbx]
    rfl
  have HB := Aside0.mk hB
  have HF := Aside0.mk hF
  have HR := Aside0.mk hR
  have HX := Aside0.mk hbx
  have HN := Aside0.mk hne
  have HL := Aside0.mk hl
  have Hb := Aside0.mk hb
  clear hB hF hR hbx hne hl hb
  go_enter Try.func24, Try.ntmps24
  go_wp2_with ((with_reducible refine gate_builtin (b := .append) (xs := #[.tmp 4, .tmp 6]) rfl ?_); at_builtin; refine Kd.R_append Kd.string (w0 := w) w.heap.size rfl (.tmp 4) (.tmp 6) 25 9 (.string (⟨#[]⟩ : ByteArray)) 16 rfl Try.underlying25 info9 rfl (by decide) (by omega) v l s [.string s] (fun k => ¬ F k ∧ k ≠ b) (fun _ => False) rfl rfl ?aP (fun _ hk => hk.elim) ?aF HR.out HB.out ?aS ?aL ?_; (case aP => exact rfl); (case aF => exact (fun k hk => ⟨fun hf => by have := (HF.out k hf).1; omega, by have := sk_lt HX.out; omega⟩)); (case aS => exact below_size HB.out); (case aL => have := HL.out; omega); intro v1 w1 ho hb1 hg hat; obtain ⟨A1, c1, rfl⟩ := Kd.R_slice ho; have HX1 := Aside0.mk (blk_grown (g := b) HX.out hg HN.out); have hc1 : w1.cell? ⟨b, 0, none⟩ = some v := (Lib.cell_of_heap HX1.out 0).trans rfl; have hf1 : w1.frozen? ⟨b, 0, none⟩ = false := Lib.frozen_of_heap HX1.out 0; have HO := Aside0.mk ho; have HG := Aside0.mk hg; have HB1 := Aside0.mk hb1; clear ho hb1 hg hat)
  go_ret
  have hO2 := HO.out
  rw [show (l ++ [s]).length = l.length + 1 by simp] at hO2
  have hsz : W.heap.size ≤ w1.heap.size := HG.out.size
  have hfar : ∀ k, F k → (w1.setCell ⟨b, 0, none⟩ (.slice A1 (l.length + 1) c1)).heap[k]? = W.heap[k]? := fun k hk => (Below.heap_setCell w1 ⟨b, 0, none⟩ _ k (HF.out k hk).2).trans (HG.out.block k (HF.out k hk).1 (fun e => (HR.out.1 k e.symm).1 hk))
  exact ⟨rfl, ⟨below_set HB1.out Hb.out, fun k hk => ⟨by have := (HF.out k hk).1; simp; omega, (HF.out k hk).2⟩, Hb.out, _, blk_set HX1.out 0 _, Kd.R_far hO2 (fun k hk => hk.2) _⟩, by simp; exact hsz, hfar⟩

set_option maxHeartbeats 40000000 in
set_option maxRecDepth 100000 in
theorem st_calls (w : World) (b : Nat) : ∀ (n a c : Nat) (s : ByteArray) (l : List ByteArray) (F : Nat → Prop) (W : World), a + c = n → s.size + n ≤ 100 → l.length + (schL n a c s).length ≤ 100000 → SInv w F b l W →
    Calls Try.prog 22 #[.int .i64 (a : Int), .int .i64 (c : Int), .string s, .func (.func 24) #[] #[.pointer (some ⟨b, 0, none⟩)]] W fun e W' => e = .returned (.bool false) ∧ SInv w F b (l ++ schL n a c s) W' ∧ SKept F W W' := by
  intro n
  induction n with
  | zero =>
    intro a c s l F W hn hs hl hI
    obtain rfl : a = 0 := by omega
    obtain rfl : c = 0 := by omega
    have HI := Aside0.mk hI
    have HL := Aside0.mk hl
    clear hI hl
    go_enter Try.func22, Try.ntmps22
    go_wp2_with fail
    refine (st_cl w F b l s _ HI.out (by have := HL.out; omega)).mono ?_
    rintro e w1 ⟨rfl, hI1, hk1⟩
    have HI1 := Aside0.mk hI1
    have HK1 := Aside0.mk hk1
    clear hI1 hk1
    go_wp2
    go_ret
    exact ⟨rfl, HI1.out, HK1.out⟩
  | succ n ih =>
    intro a c s l F W hn hs hl hI
    have HIH := Aside0.mk ih
    have HL := Aside0.mk hl
    have HS := Aside0.mk hs
    have n4 : (9223372036854775807 < s.size + 1) = False := eq_false (by omega)
    have n5 : decide (s.size + 1 ≤ 9223372036854775807) = true := decide_eq_true (by omega)
    have HWS := Aside0.mk (below_size hI.1)
    have HFS := Aside0.mk (fun k hk => (hI.2.1 k hk).1)
    obtain ⟨i1, i2, i3⟩ := hI.iter (⟨#[66, 76, 82, 84]⟩ : ByteArray)
    clear ih hl hI hs
    have HC := Aside0.mk hn
    clear hn
    rcases a with _ | a
    · skip
      have nc : (((c : Nat) : Int) == 0) = false := by rw [beq_eq_false_iff_ne]; have := HC.out; omega
      have gc : decide (((c : Nat) : Int) > 0) = true := decide_eq_true (by have := HC.out; omega)
      have HCc := Aside0.mk (show 0 < c by have := HC.out; omega)
      have gcn : decide (0 < c) = true := decide_eq_true HCc.out
      have m1 : wrap64 (((c : Nat) : Int) - 1) = ((c - 1 : Nat) : Int) := by have := HC.out; have := HS.out; unfold wrap64; omega
      have m2 : IntKind.i64.wrap (((c : Nat) : Int) - 1) = ((c - 1 : Nat) : Int) := (i64_w _).trans m1
      go_enter Try.func22, Try.ntmps22
      go_wp2
      change Code.wp _ _ _ _ (W.alloc (.stringIter (⟨#[66, 76, 82, 84]⟩ : ByteArray) 0))
      have I1 := Aside0.mk i1
      have I2 := Aside0.mk i2
      have I3 := Aside0.mk i3
      clear i1 i2 i3
      generalize W.alloc (.stringIter (⟨#[66, 76, 82, 84]⟩ : ByteArray) 0) = w0 at I1 I2 I3 ⊢
      obtain ⟨kI, hkI⟩ : ∃ kI : Nat, W.heap.size = kI := ⟨_, rfl⟩
      obtain ⟨F', hF'⟩ : ∃ F' : Nat → Prop, (fun k => F k ∨ k = kI) = F' := ⟨_, rfl⟩
      have HFk := Aside0.mk (show F' kI by rw [← hF']; exact .inr rfl)
      have HFF := Aside0.mk (show ∀ k, F k → F' k ∧ k ≠ kI by rw [← hF']; exact fun k hk => ⟨.inl hk, fun e => by have := HFS.out k hk; omega⟩)
      rw [hkI] at I1 I2 HWS ⊢
      rw [hF'] at I1
      clear hkI hF' HFS
      go_loopg [] 5 (fun kq W' => ∃ (p : Nat) (acc rest : List ByteArray), Aside0 (p + kq = 5 ∧ p ≤ 4) ∧ Aside0 (W'.heap[kI]? = some (.stringIter (⟨#[66, 76, 82, 84]⟩ : ByteArray) p)) ∧ Aside0 (SInv w F' b (l ++ acc) W') ∧ Aside0 (SKept F W W') ∧ Aside0 (schL (n + 1) 0 c s = acc ++ rest ∧ rest = (([66, 76, 82, 84] : List UInt8).drop p).foldr (fun ch r => schP (schL n) 0 c s ch ++ r) []))
      case atStart => exact ⟨0, [], _, ⟨by omega, by omega⟩, I2, ⟨by rw [List.append_nil]; exact I1.out⟩, I3, ⟨by rw [schL]; rfl, rfl⟩⟩
      case round =>
        clear I1 I2 I3
        obtain ⟨p, acc, rest, HP, HK, HI, HT, HA⟩ := hrel
        have hp := HP.out
        cases gk with
        | zero => exact absurd HP.out (fun h => by omega)
        | succ k1 =>
          have hpc : p = 0 ∨ p = 1 ∨ p = 2 ∨ p = 3 ∨ p = 4 := by omega
          clear hp
          rcases hpc with rfl | rfl | rfl | rfl | rfl
          · have hnx : (Instr.next (.pointer (some ⟨kI, 0, none⟩)) true 0).run Try.prog wr = .ok (.tuple #[.bool true, .int .i64 (0 : Nat), .int .i32 ((66 : UInt8).toNat : Int)]) (wr.iterAt kI (⟨#[66, 76, 82, 84]⟩ : ByteArray) (0 + 1)) := Lib.run_next_ascii_at wr kI (⟨#[66, 76, 82, 84]⟩ : ByteArray) 0 0 HK.out (by decide) (by decide)
            rw [show ((66 : UInt8).toNat : Int) = 66 from rfl] at hnx
            obtain ⟨j1, j2⟩ := SInv.step (q := 0 + 1) HI.out HFk.out HK.out HWS.out
            have HI2 := Aside0.mk j1
            have HK2 := Aside0.mk j2
            have HT2 := Aside0.mk (HT.out.trans (show SKept F wr (wr.iterAt kI (⟨#[66, 76, 82, 84]⟩ : ByteArray) (0 + 1)) from ⟨by rw [Lib.iterAt_size]; exact Nat.le_refl _, fun k hk => Lib.iterAt_other _ _ _ _ _ (HFF.out k hk).2⟩))
            have hcv : (convert 21 9 (.int .i32 66)).run Try.prog (wr.iterAt kI (⟨#[66, 76, 82, 84]⟩ : ByteArray) (0 + 1)) = .ok (.string (⟨#[66]⟩ : ByteArray)) (wr.iterAt kI (⟨#[66, 76, 82, 84]⟩ : ByteArray) (0 + 1)) := by rfl
            clear j1 j2
            obtain ⟨HA1, HA2⟩ := HA.out
            have hpart : schP (schL n) 0 c s 66 = schL n 0 (c - 1) (s ++ (⟨#[66]⟩ : ByteArray)) := by unfold schP; simp [HCc.out]
            have hrest : rest = schL n 0 (c - 1) (s ++ (⟨#[66]⟩ : ByteArray)) ++ (([66, 76, 82, 84] : List UInt8).drop (0 + 1)).foldr (fun ch r => schP (schL n) 0 c s ch ++ r) [] := by rw [← hpart]; exact HA2
            have HLEN := Aside0.mk (show (l ++ acc).length + (schL n 0 (c - 1) (s ++ (⟨#[66]⟩ : ByteArray))).length ≤ 100000 by have h1 := HL.out; rw [HA1, hrest] at h1; simp only [List.length_append] at h1 ⊢; omega)
            have HRE := Aside0.mk hrest
            have HA3 := Aside0.mk HA1
            clear HA HA1 HA2 hpart hrest HI HK HT
            generalize wr.iterAt kI (⟨#[66, 76, 82, 84]⟩ : ByteArray) (0 + 1) = w3 at hnx HI2 HK2 HT2 hcv ⊢
            go_wp2_with (go_at_call 22; ( refine (HIH.out 0 (c - 1) (s ++ (⟨#[66]⟩ : ByteArray)) (l ++ acc) F' _ ?z0 ?z1 HLEN.out HI2.out).mono ?_); (case z0 => have := HC.out; omega); (case z1 => have := HS.out; rw [ByteArray.size_append]; show s.size + 1 + n ≤ 100; omega); rintro e w4 ⟨rfl, hI4, hk4⟩; have HI4 := Aside0.mk hI4; have HK4 := Aside0.mk hk4; clear hI4 hk4)
            go_roundg k1
            case measure => omega
            case rel => exact ⟨0 + 1, acc ++ schL n 0 (c - 1) (s ++ (⟨#[66]⟩ : ByteArray)), _, ⟨by have := HP.out; omega, by omega⟩, ⟨(HK4.out.2 kI HFk.out).trans HK2.out⟩, ⟨by rw [← List.append_assoc]; exact HI4.out⟩, ⟨HT2.out.trans (HK4.out.sub (fun k hk => (HFF.out k hk).1))⟩, ⟨by rw [HA3.out, HRE.out, List.append_assoc], rfl⟩⟩
          · have hnx : (Instr.next (.pointer (some ⟨kI, 0, none⟩)) true 0).run Try.prog wr = .ok (.tuple #[.bool true, .int .i64 (1 : Nat), .int .i32 ((76 : UInt8).toNat : Int)]) (wr.iterAt kI (⟨#[66, 76, 82, 84]⟩ : ByteArray) (1 + 1)) := Lib.run_next_ascii_at wr kI (⟨#[66, 76, 82, 84]⟩ : ByteArray) 1 0 HK.out (by decide) (by decide)
            rw [show ((76 : UInt8).toNat : Int) = 76 from rfl] at hnx
            obtain ⟨j1, j2⟩ := SInv.step (q := 1 + 1) HI.out HFk.out HK.out HWS.out
            have HI2 := Aside0.mk j1
            have HK2 := Aside0.mk j2
            have HT2 := Aside0.mk (HT.out.trans (show SKept F wr (wr.iterAt kI (⟨#[66, 76, 82, 84]⟩ : ByteArray) (1 + 1)) from ⟨by rw [Lib.iterAt_size]; exact Nat.le_refl _, fun k hk => Lib.iterAt_other _ _ _ _ _ (HFF.out k hk).2⟩))
            have hcv : (convert 21 9 (.int .i32 76)).run Try.prog (wr.iterAt kI (⟨#[66, 76, 82, 84]⟩ : ByteArray) (1 + 1)) = .ok (.string (⟨#[76]⟩ : ByteArray)) (wr.iterAt kI (⟨#[66, 76, 82, 84]⟩ : ByteArray) (1 + 1)) := by rfl
            clear j1 j2
            obtain ⟨HA1, HA2⟩ := HA.out
            have hpart : schP (schL n) 0 c s 76 = [] := by unfold schP; simp
            have hrest : rest = (([66, 76, 82, 84] : List UInt8).drop (1 + 1)).foldr (fun ch r => schP (schL n) 0 c s ch ++ r) [] := by rw [HA2]; show schP (schL n) 0 c s 76 ++ _ = _; rw [hpart]; rfl
            have HRE := Aside0.mk hrest
            have HA3 := Aside0.mk HA1
            clear HA HA1 HA2 hpart hrest HI HK HT
            generalize wr.iterAt kI (⟨#[66, 76, 82, 84]⟩ : ByteArray) (1 + 1) = w3 at hnx HI2 HK2 HT2 hcv ⊢
            go_wp2
            go_roundg k1
            case measure => omega
            case rel => exact ⟨1 + 1, acc, _, ⟨by have := HP.out; omega, by omega⟩, HK2, HI2, HT2, ⟨by rw [HA3.out, HRE.out], rfl⟩⟩
          · have hnx : (Instr.next (.pointer (some ⟨kI, 0, none⟩)) true 0).run Try.prog wr = .ok (.tuple #[.bool true, .int .i64 (2 : Nat), .int .i32 ((82 : UInt8).toNat : Int)]) (wr.iterAt kI (⟨#[66, 76, 82, 84]⟩ : ByteArray) (2 + 1)) := Lib.run_next_ascii_at wr kI (⟨#[66, 76, 82, 84]⟩ : ByteArray) 2 0 HK.out (by decide) (by decide)
            rw [show ((82 : UInt8).toNat : Int) = 82 from rfl] at hnx
            obtain ⟨j1, j2⟩ := SInv.step (q := 2 + 1) HI.out HFk.out HK.out HWS.out
            have HI2 := Aside0.mk j1
            have HK2 := Aside0.mk j2
            have HT2 := Aside0.mk (HT.out.trans (show SKept F wr (wr.iterAt kI (⟨#[66, 76, 82, 84]⟩ : ByteArray) (2 + 1)) from ⟨by rw [Lib.iterAt_size]; exact Nat.le_refl _, fun k hk => Lib.iterAt_other _ _ _ _ _ (HFF.out k hk).2⟩))
            have hcv : (convert 21 9 (.int .i32 82)).run Try.prog (wr.iterAt kI (⟨#[66, 76, 82, 84]⟩ : ByteArray) (2 + 1)) = .ok (.string (⟨#[82]⟩ : ByteArray)) (wr.iterAt kI (⟨#[66, 76, 82, 84]⟩ : ByteArray) (2 + 1)) := by rfl
            clear j1 j2
            obtain ⟨HA1, HA2⟩ := HA.out
            have hpart : schP (schL n) 0 c s 82 = [] := by unfold schP; simp
            have hrest : rest = (([66, 76, 82, 84] : List UInt8).drop (2 + 1)).foldr (fun ch r => schP (schL n) 0 c s ch ++ r) [] := by rw [HA2]; show schP (schL n) 0 c s 82 ++ _ = _; rw [hpart]; rfl
            have HRE := Aside0.mk hrest
            have HA3 := Aside0.mk HA1
            clear HA HA1 HA2 hpart hrest HI HK HT
            generalize wr.iterAt kI (⟨#[66, 76, 82, 84]⟩ : ByteArray) (2 + 1) = w3 at hnx HI2 HK2 HT2 hcv ⊢
            go_wp2
            go_roundg k1
            case measure => omega
            case rel => exact ⟨2 + 1, acc, _, ⟨by have := HP.out; omega, by omega⟩, HK2, HI2, HT2, ⟨by rw [HA3.out, HRE.out], rfl⟩⟩
          · have hnx : (Instr.next (.pointer (some ⟨kI, 0, none⟩)) true 0).run Try.prog wr = .ok (.tuple #[.bool true, .int .i64 (3 : Nat), .int .i32 ((84 : UInt8).toNat : Int)]) (wr.iterAt kI (⟨#[66, 76, 82, 84]⟩ : ByteArray) (3 + 1)) := Lib.run_next_ascii_at wr kI (⟨#[66, 76, 82, 84]⟩ : ByteArray) 3 0 HK.out (by decide) (by decide)
            rw [show ((84 : UInt8).toNat : Int) = 84 from rfl] at hnx
            obtain ⟨j1, j2⟩ := SInv.step (q := 3 + 1) HI.out HFk.out HK.out HWS.out
            have HI2 := Aside0.mk j1
            have HK2 := Aside0.mk j2
            have HT2 := Aside0.mk (HT.out.trans (show SKept F wr (wr.iterAt kI (⟨#[66, 76, 82, 84]⟩ : ByteArray) (3 + 1)) from ⟨by rw [Lib.iterAt_size]; exact Nat.le_refl _, fun k hk => Lib.iterAt_other _ _ _ _ _ (HFF.out k hk).2⟩))
            have hcv : (convert 21 9 (.int .i32 84)).run Try.prog (wr.iterAt kI (⟨#[66, 76, 82, 84]⟩ : ByteArray) (3 + 1)) = .ok (.string (⟨#[84]⟩ : ByteArray)) (wr.iterAt kI (⟨#[66, 76, 82, 84]⟩ : ByteArray) (3 + 1)) := by rfl
            clear j1 j2
            obtain ⟨HA1, HA2⟩ := HA.out
            have hpart : schP (schL n) 0 c s 84 = schL n 0 (c - 1) (s ++ (⟨#[84]⟩ : ByteArray)) := by unfold schP; simp [HCc.out]
            have hrest : rest = schL n 0 (c - 1) (s ++ (⟨#[84]⟩ : ByteArray)) ++ (([66, 76, 82, 84] : List UInt8).drop (3 + 1)).foldr (fun ch r => schP (schL n) 0 c s ch ++ r) [] := by rw [← hpart]; exact HA2
            have HLEN := Aside0.mk (show (l ++ acc).length + (schL n 0 (c - 1) (s ++ (⟨#[84]⟩ : ByteArray))).length ≤ 100000 by have h1 := HL.out; rw [HA1, hrest] at h1; simp only [List.length_append] at h1 ⊢; omega)
            have HRE := Aside0.mk hrest
            have HA3 := Aside0.mk HA1
            clear HA HA1 HA2 hpart hrest HI HK HT
            generalize wr.iterAt kI (⟨#[66, 76, 82, 84]⟩ : ByteArray) (3 + 1) = w3 at hnx HI2 HK2 HT2 hcv ⊢
            go_wp2_with (go_at_call 22; ( refine (HIH.out 0 (c - 1) (s ++ (⟨#[84]⟩ : ByteArray)) (l ++ acc) F' _ ?z0 ?z1 HLEN.out HI2.out).mono ?_); (case z0 => have := HC.out; omega); (case z1 => have := HS.out; rw [ByteArray.size_append]; show s.size + 1 + n ≤ 100; omega); rintro e w4 ⟨rfl, hI4, hk4⟩; have HI4 := Aside0.mk hI4; have HK4 := Aside0.mk hk4; clear hI4 hk4)
            go_roundg k1
            case measure => omega
            case rel => exact ⟨3 + 1, acc ++ schL n 0 (c - 1) (s ++ (⟨#[84]⟩ : ByteArray)), _, ⟨by have := HP.out; omega, by omega⟩, ⟨(HK4.out.2 kI HFk.out).trans HK2.out⟩, ⟨by rw [← List.append_assoc]; exact HI4.out⟩, ⟨HT2.out.trans (HK4.out.sub (fun k hk => (HFF.out k hk).1))⟩, ⟨by rw [HA3.out, HRE.out, List.append_assoc], rfl⟩⟩
          · have hnx : (Instr.next (.pointer (some ⟨kI, 0, none⟩)) true 0).run Try.prog wr = .ok (.tuple #[.bool false]) wr := Lib.run_next_end_at wr kI (⟨#[66, 76, 82, 84]⟩ : ByteArray) 4 0 HK.out (by decide)
            obtain ⟨HA1, HA2⟩ := HA.out
            have HE := Aside0.mk (show l ++ schL (n + 1) 0 c s = l ++ acc by rw [HA1, HA2]; simp)
            clear HA HA1 HA2
            go_wp2
            go_ret
            exact ⟨rfl, by rw [HE.out]; exact HI.out.less (fun k hk => (HFF.out k hk).1), HT.out⟩
    · rcases c with _ | c
      · skip
        have na : (((a + 1 : Nat) : Int) == 0) = false := by rw [beq_eq_false_iff_ne]; omega
        have na2 : (((a : Nat) : Int) + 1 == 0) = false := by rw [beq_eq_false_iff_ne]; omega
        have ga : decide (((a + 1 : Nat) : Int) > 0) = true := decide_eq_true (by omega)
        have ga2 : decide (((a : Nat) : Int) + 1 > 0) = true := decide_eq_true (by omega)
        have p1 : wrap64 (((a + 1 : Nat) : Int) - 1) = (a : Int) := by have := HC.out; have := HS.out; unfold wrap64; omega
        have p2 : IntKind.i64.wrap (((a + 1 : Nat) : Int) - 1) = (a : Int) := (i64_w _).trans p1
        have p3 : wrap64 ((a : Int) + 1 - 1) = (a : Int) := by have := HC.out; have := HS.out; unfold wrap64; omega
        have p4 : wrap64 (a : Int) = (a : Int) := by have := HC.out; have := HS.out; unfold wrap64; omega
        go_enter Try.func22, Try.ntmps22
        go_wp2
        change Code.wp _ _ _ _ (W.alloc (.stringIter (⟨#[66, 76, 82, 84]⟩ : ByteArray) 0))
        have I1 := Aside0.mk i1
        have I2 := Aside0.mk i2
        have I3 := Aside0.mk i3
        clear i1 i2 i3
        generalize W.alloc (.stringIter (⟨#[66, 76, 82, 84]⟩ : ByteArray) 0) = w0 at I1 I2 I3 ⊢
        obtain ⟨kI, hkI⟩ : ∃ kI : Nat, W.heap.size = kI := ⟨_, rfl⟩
        obtain ⟨F', hF'⟩ : ∃ F' : Nat → Prop, (fun k => F k ∨ k = kI) = F' := ⟨_, rfl⟩
        have HFk := Aside0.mk (show F' kI by rw [← hF']; exact .inr rfl)
        have HFF := Aside0.mk (show ∀ k, F k → F' k ∧ k ≠ kI by rw [← hF']; exact fun k hk => ⟨.inl hk, fun e => by have := HFS.out k hk; omega⟩)
        rw [hkI] at I1 I2 HWS ⊢
        rw [hF'] at I1
        clear hkI hF' HFS
        go_loopg [] 5 (fun kq W' => ∃ (p : Nat) (acc rest : List ByteArray), Aside0 (p + kq = 5 ∧ p ≤ 4) ∧ Aside0 (W'.heap[kI]? = some (.stringIter (⟨#[66, 76, 82, 84]⟩ : ByteArray) p)) ∧ Aside0 (SInv w F' b (l ++ acc) W') ∧ Aside0 (SKept F W W') ∧ Aside0 (schL (n + 1) (a + 1) 0 s = acc ++ rest ∧ rest = (([66, 76, 82, 84] : List UInt8).drop p).foldr (fun ch r => schP (schL n) (a + 1) 0 s ch ++ r) []))
        case atStart => exact ⟨0, [], _, ⟨by omega, by omega⟩, I2, ⟨by rw [List.append_nil]; exact I1.out⟩, I3, ⟨by rw [schL]; rfl, rfl⟩⟩
        case round =>
          clear I1 I2 I3
          obtain ⟨p, acc, rest, HP, HK, HI, HT, HA⟩ := hrel
          have hp := HP.out
          cases gk with
          | zero => exact absurd HP.out (fun h => by omega)
          | succ k1 =>
            have hpc : p = 0 ∨ p = 1 ∨ p = 2 ∨ p = 3 ∨ p = 4 := by omega
            clear hp
            rcases hpc with rfl | rfl | rfl | rfl | rfl
            · have hnx : (Instr.next (.pointer (some ⟨kI, 0, none⟩)) true 0).run Try.prog wr = .ok (.tuple #[.bool true, .int .i64 (0 : Nat), .int .i32 ((66 : UInt8).toNat : Int)]) (wr.iterAt kI (⟨#[66, 76, 82, 84]⟩ : ByteArray) (0 + 1)) := Lib.run_next_ascii_at wr kI (⟨#[66, 76, 82, 84]⟩ : ByteArray) 0 0 HK.out (by decide) (by decide)
              rw [show ((66 : UInt8).toNat : Int) = 66 from rfl] at hnx
              obtain ⟨j1, j2⟩ := SInv.step (q := 0 + 1) HI.out HFk.out HK.out HWS.out
              have HI2 := Aside0.mk j1
              have HK2 := Aside0.mk j2
              have HT2 := Aside0.mk (HT.out.trans (show SKept F wr (wr.iterAt kI (⟨#[66, 76, 82, 84]⟩ : ByteArray) (0 + 1)) from ⟨by rw [Lib.iterAt_size]; exact Nat.le_refl _, fun k hk => Lib.iterAt_other _ _ _ _ _ (HFF.out k hk).2⟩))
              have hcv : (convert 21 9 (.int .i32 66)).run Try.prog (wr.iterAt kI (⟨#[66, 76, 82, 84]⟩ : ByteArray) (0 + 1)) = .ok (.string (⟨#[66]⟩ : ByteArray)) (wr.iterAt kI (⟨#[66, 76, 82, 84]⟩ : ByteArray) (0 + 1)) := by rfl
              clear j1 j2
              obtain ⟨HA1, HA2⟩ := HA.out
              have hpart : schP (schL n) (a + 1) 0 s 66 = [] := by unfold schP; simp
              have hrest : rest = (([66, 76, 82, 84] : List UInt8).drop (0 + 1)).foldr (fun ch r => schP (schL n) (a + 1) 0 s ch ++ r) [] := by rw [HA2]; show schP (schL n) (a + 1) 0 s 66 ++ _ = _; rw [hpart]; rfl
              have HRE := Aside0.mk hrest
              have HA3 := Aside0.mk HA1
              clear HA HA1 HA2 hpart hrest HI HK HT
              generalize wr.iterAt kI (⟨#[66, 76, 82, 84]⟩ : ByteArray) (0 + 1) = w3 at hnx HI2 HK2 HT2 hcv ⊢
              go_wp2
              go_roundg k1
              case measure => omega
              case rel => exact ⟨0 + 1, acc, _, ⟨by have := HP.out; omega, by omega⟩, HK2, HI2, HT2, ⟨by rw [HA3.out, HRE.out], rfl⟩⟩
            · have hnx : (Instr.next (.pointer (some ⟨kI, 0, none⟩)) true 0).run Try.prog wr = .ok (.tuple #[.bool true, .int .i64 (1 : Nat), .int .i32 ((76 : UInt8).toNat : Int)]) (wr.iterAt kI (⟨#[66, 76, 82, 84]⟩ : ByteArray) (1 + 1)) := Lib.run_next_ascii_at wr kI (⟨#[66, 76, 82, 84]⟩ : ByteArray) 1 0 HK.out (by decide) (by decide)
              rw [show ((76 : UInt8).toNat : Int) = 76 from rfl] at hnx
              obtain ⟨j1, j2⟩ := SInv.step (q := 1 + 1) HI.out HFk.out HK.out HWS.out
              have HI2 := Aside0.mk j1
              have HK2 := Aside0.mk j2
              have HT2 := Aside0.mk (HT.out.trans (show SKept F wr (wr.iterAt kI (⟨#[66, 76, 82, 84]⟩ : ByteArray) (1 + 1)) from ⟨by rw [Lib.iterAt_size]; exact Nat.le_refl _, fun k hk => Lib.iterAt_other _ _ _ _ _ (HFF.out k hk).2⟩))
              have hcv : (convert 21 9 (.int .i32 76)).run Try.prog (wr.iterAt kI (⟨#[66, 76, 82, 84]⟩ : ByteArray) (1 + 1)) = .ok (.string (⟨#[76]⟩ : ByteArray)) (wr.iterAt kI (⟨#[66, 76, 82, 84]⟩ : ByteArray) (1 + 1)) := by rfl
              clear j1 j2
              obtain ⟨HA1, HA2⟩ := HA.out
              have hpart : schP (schL n) (a + 1) 0 s 76 = schL n a 0 (s ++ (⟨#[76]⟩ : ByteArray)) := by unfold schP; simp
              have hrest : rest = schL n a 0 (s ++ (⟨#[76]⟩ : ByteArray)) ++ (([66, 76, 82, 84] : List UInt8).drop (1 + 1)).foldr (fun ch r => schP (schL n) (a + 1) 0 s ch ++ r) [] := by rw [← hpart]; exact HA2
              have HLEN := Aside0.mk (show (l ++ acc).length + (schL n a 0 (s ++ (⟨#[76]⟩ : ByteArray))).length ≤ 100000 by have h1 := HL.out; rw [HA1, hrest] at h1; simp only [List.length_append] at h1 ⊢; omega)
              have HRE := Aside0.mk hrest
              have HA3 := Aside0.mk HA1
              clear HA HA1 HA2 hpart hrest HI HK HT
              generalize wr.iterAt kI (⟨#[66, 76, 82, 84]⟩ : ByteArray) (1 + 1) = w3 at hnx HI2 HK2 HT2 hcv ⊢
              go_wp2_with (go_at_call 22; ( refine (HIH.out a 0 (s ++ (⟨#[76]⟩ : ByteArray)) (l ++ acc) F' _ ?z0 ?z1 HLEN.out HI2.out).mono ?_); (case z0 => have := HC.out; omega); (case z1 => have := HS.out; rw [ByteArray.size_append]; show s.size + 1 + n ≤ 100; omega); rintro e w4 ⟨rfl, hI4, hk4⟩; have HI4 := Aside0.mk hI4; have HK4 := Aside0.mk hk4; clear hI4 hk4)
              go_roundg k1
              case measure => omega
              case rel => exact ⟨1 + 1, acc ++ schL n a 0 (s ++ (⟨#[76]⟩ : ByteArray)), _, ⟨by have := HP.out; omega, by omega⟩, ⟨(HK4.out.2 kI HFk.out).trans HK2.out⟩, ⟨by rw [← List.append_assoc]; exact HI4.out⟩, ⟨HT2.out.trans (HK4.out.sub (fun k hk => (HFF.out k hk).1))⟩, ⟨by rw [HA3.out, HRE.out, List.append_assoc], rfl⟩⟩
            · have hnx : (Instr.next (.pointer (some ⟨kI, 0, none⟩)) true 0).run Try.prog wr = .ok (.tuple #[.bool true, .int .i64 (2 : Nat), .int .i32 ((82 : UInt8).toNat : Int)]) (wr.iterAt kI (⟨#[66, 76, 82, 84]⟩ : ByteArray) (2 + 1)) := Lib.run_next_ascii_at wr kI (⟨#[66, 76, 82, 84]⟩ : ByteArray) 2 0 HK.out (by decide) (by decide)
              rw [show ((82 : UInt8).toNat : Int) = 82 from rfl] at hnx
              obtain ⟨j1, j2⟩ := SInv.step (q := 2 + 1) HI.out HFk.out HK.out HWS.out
              have HI2 := Aside0.mk j1
              have HK2 := Aside0.mk j2
              have HT2 := Aside0.mk (HT.out.trans (show SKept F wr (wr.iterAt kI (⟨#[66, 76, 82, 84]⟩ : ByteArray) (2 + 1)) from ⟨by rw [Lib.iterAt_size]; exact Nat.le_refl _, fun k hk => Lib.iterAt_other _ _ _ _ _ (HFF.out k hk).2⟩))
              have hcv : (convert 21 9 (.int .i32 82)).run Try.prog (wr.iterAt kI (⟨#[66, 76, 82, 84]⟩ : ByteArray) (2 + 1)) = .ok (.string (⟨#[82]⟩ : ByteArray)) (wr.iterAt kI (⟨#[66, 76, 82, 84]⟩ : ByteArray) (2 + 1)) := by rfl
              clear j1 j2
              obtain ⟨HA1, HA2⟩ := HA.out
              have hpart : schP (schL n) (a + 1) 0 s 82 = schL n a 0 (s ++ (⟨#[82]⟩ : ByteArray)) := by unfold schP; simp
              have hrest : rest = schL n a 0 (s ++ (⟨#[82]⟩ : ByteArray)) ++ (([66, 76, 82, 84] : List UInt8).drop (2 + 1)).foldr (fun ch r => schP (schL n) (a + 1) 0 s ch ++ r) [] := by rw [← hpart]; exact HA2
              have HLEN := Aside0.mk (show (l ++ acc).length + (schL n a 0 (s ++ (⟨#[82]⟩ : ByteArray))).length ≤ 100000 by have h1 := HL.out; rw [HA1, hrest] at h1; simp only [List.length_append] at h1 ⊢; omega)
              have HRE := Aside0.mk hrest
              have HA3 := Aside0.mk HA1
              clear HA HA1 HA2 hpart hrest HI HK HT
              generalize wr.iterAt kI (⟨#[66, 76, 82, 84]⟩ : ByteArray) (2 + 1) = w3 at hnx HI2 HK2 HT2 hcv ⊢
              go_wp2_with (go_at_call 22; ( refine (HIH.out a 0 (s ++ (⟨#[82]⟩ : ByteArray)) (l ++ acc) F' _ ?z0 ?z1 HLEN.out HI2.out).mono ?_); (case z0 => have := HC.out; omega); (case z1 => have := HS.out; rw [ByteArray.size_append]; show s.size + 1 + n ≤ 100; omega); rintro e w4 ⟨rfl, hI4, hk4⟩; have HI4 := Aside0.mk hI4; have HK4 := Aside0.mk hk4; clear hI4 hk4)
              go_roundg k1
              case measure => omega
              case rel => exact ⟨2 + 1, acc ++ schL n a 0 (s ++ (⟨#[82]⟩ : ByteArray)), _, ⟨by have := HP.out; omega, by omega⟩, ⟨(HK4.out.2 kI HFk.out).trans HK2.out⟩, ⟨by rw [← List.append_assoc]; exact HI4.out⟩, ⟨HT2.out.trans (HK4.out.sub (fun k hk => (HFF.out k hk).1))⟩, ⟨by rw [HA3.out, HRE.out, List.append_assoc], rfl⟩⟩
            · have hnx : (Instr.next (.pointer (some ⟨kI, 0, none⟩)) true 0).run Try.prog wr = .ok (.tuple #[.bool true, .int .i64 (3 : Nat), .int .i32 ((84 : UInt8).toNat : Int)]) (wr.iterAt kI (⟨#[66, 76, 82, 84]⟩ : ByteArray) (3 + 1)) := Lib.run_next_ascii_at wr kI (⟨#[66, 76, 82, 84]⟩ : ByteArray) 3 0 HK.out (by decide) (by decide)
              rw [show ((84 : UInt8).toNat : Int) = 84 from rfl] at hnx
              obtain ⟨j1, j2⟩ := SInv.step (q := 3 + 1) HI.out HFk.out HK.out HWS.out
              have HI2 := Aside0.mk j1
              have HK2 := Aside0.mk j2
              have HT2 := Aside0.mk (HT.out.trans (show SKept F wr (wr.iterAt kI (⟨#[66, 76, 82, 84]⟩ : ByteArray) (3 + 1)) from ⟨by rw [Lib.iterAt_size]; exact Nat.le_refl _, fun k hk => Lib.iterAt_other _ _ _ _ _ (HFF.out k hk).2⟩))
              have hcv : (convert 21 9 (.int .i32 84)).run Try.prog (wr.iterAt kI (⟨#[66, 76, 82, 84]⟩ : ByteArray) (3 + 1)) = .ok (.string (⟨#[84]⟩ : ByteArray)) (wr.iterAt kI (⟨#[66, 76, 82, 84]⟩ : ByteArray) (3 + 1)) := by rfl
              clear j1 j2
              obtain ⟨HA1, HA2⟩ := HA.out
              have hpart : schP (schL n) (a + 1) 0 s 84 = [] := by unfold schP; simp
              have hrest : rest = (([66, 76, 82, 84] : List UInt8).drop (3 + 1)).foldr (fun ch r => schP (schL n) (a + 1) 0 s ch ++ r) [] := by rw [HA2]; show schP (schL n) (a + 1) 0 s 84 ++ _ = _; rw [hpart]; rfl
              have HRE := Aside0.mk hrest
              have HA3 := Aside0.mk HA1
              clear HA HA1 HA2 hpart hrest HI HK HT
              generalize wr.iterAt kI (⟨#[66, 76, 82, 84]⟩ : ByteArray) (3 + 1) = w3 at hnx HI2 HK2 HT2 hcv ⊢
              go_wp2
              go_roundg k1
              case measure => omega
              case rel => exact ⟨3 + 1, acc, _, ⟨by have := HP.out; omega, by omega⟩, HK2, HI2, HT2, ⟨by rw [HA3.out, HRE.out], rfl⟩⟩
            · have hnx : (Instr.next (.pointer (some ⟨kI, 0, none⟩)) true 0).run Try.prog wr = .ok (.tuple #[.bool false]) wr := Lib.run_next_end_at wr kI (⟨#[66, 76, 82, 84]⟩ : ByteArray) 4 0 HK.out (by decide)
              obtain ⟨HA1, HA2⟩ := HA.out
              have HE := Aside0.mk (show l ++ schL (n + 1) (a + 1) 0 s = l ++ acc by rw [HA1, HA2]; simp)
              clear HA HA1 HA2
              go_wp2
              go_ret
              exact ⟨rfl, by rw [HE.out]; exact HI.out.less (fun k hk => (HFF.out k hk).1), HT.out⟩
      · skip
        have na : (((a + 1 : Nat) : Int) == 0) = false := by rw [beq_eq_false_iff_ne]; omega
        have na2 : (((a : Nat) : Int) + 1 == 0) = false := by rw [beq_eq_false_iff_ne]; omega
        have ga : decide (((a + 1 : Nat) : Int) > 0) = true := decide_eq_true (by omega)
        have ga2 : decide (((a : Nat) : Int) + 1 > 0) = true := decide_eq_true (by omega)
        have p1 : wrap64 (((a + 1 : Nat) : Int) - 1) = (a : Int) := by have := HC.out; have := HS.out; unfold wrap64; omega
        have p2 : IntKind.i64.wrap (((a + 1 : Nat) : Int) - 1) = (a : Int) := (i64_w _).trans p1
        have p3 : wrap64 ((a : Int) + 1 - 1) = (a : Int) := by have := HC.out; have := HS.out; unfold wrap64; omega
        have p4 : wrap64 (a : Int) = (a : Int) := by have := HC.out; have := HS.out; unfold wrap64; omega
        have gc : decide (((c + 1 : Nat) : Int) > 0) = true := decide_eq_true (by omega)
        have gc2 : decide (((c : Nat) : Int) + 1 > 0) = true := decide_eq_true (by omega)
        have m1 : wrap64 (((c + 1 : Nat) : Int) - 1) = (c : Int) := by have := HC.out; have := HS.out; unfold wrap64; omega
        have m2 : IntKind.i64.wrap (((c + 1 : Nat) : Int) - 1) = (c : Int) := (i64_w _).trans m1
        have m3 : wrap64 ((c : Int) + 1 - 1) = (c : Int) := by have := HC.out; have := HS.out; unfold wrap64; omega
        have m4 : wrap64 (c : Int) = (c : Int) := by have := HC.out; have := HS.out; unfold wrap64; omega
        go_enter Try.func22, Try.ntmps22
        go_wp2
        change Code.wp _ _ _ _ (W.alloc (.stringIter (⟨#[66, 76, 82, 84]⟩ : ByteArray) 0))
        have I1 := Aside0.mk i1
        have I2 := Aside0.mk i2
        have I3 := Aside0.mk i3
        clear i1 i2 i3
        generalize W.alloc (.stringIter (⟨#[66, 76, 82, 84]⟩ : ByteArray) 0) = w0 at I1 I2 I3 ⊢
        obtain ⟨kI, hkI⟩ : ∃ kI : Nat, W.heap.size = kI := ⟨_, rfl⟩
        obtain ⟨F', hF'⟩ : ∃ F' : Nat → Prop, (fun k => F k ∨ k = kI) = F' := ⟨_, rfl⟩
        have HFk := Aside0.mk (show F' kI by rw [← hF']; exact .inr rfl)
        have HFF := Aside0.mk (show ∀ k, F k → F' k ∧ k ≠ kI by rw [← hF']; exact fun k hk => ⟨.inl hk, fun e => by have := HFS.out k hk; omega⟩)
        rw [hkI] at I1 I2 HWS ⊢
        rw [hF'] at I1
        clear hkI hF' HFS
        go_loopg [] 5 (fun kq W' => ∃ (p : Nat) (acc rest : List ByteArray), Aside0 (p + kq = 5 ∧ p ≤ 4) ∧ Aside0 (W'.heap[kI]? = some (.stringIter (⟨#[66, 76, 82, 84]⟩ : ByteArray) p)) ∧ Aside0 (SInv w F' b (l ++ acc) W') ∧ Aside0 (SKept F W W') ∧ Aside0 (schL (n + 1) (a + 1) (c + 1) s = acc ++ rest ∧ rest = (([66, 76, 82, 84] : List UInt8).drop p).foldr (fun ch r => schP (schL n) (a + 1) (c + 1) s ch ++ r) []))
        case atStart => exact ⟨0, [], _, ⟨by omega, by omega⟩, I2, ⟨by rw [List.append_nil]; exact I1.out⟩, I3, ⟨by rw [schL]; rfl, rfl⟩⟩
        case round =>
          clear I1 I2 I3
          obtain ⟨p, acc, rest, HP, HK, HI, HT, HA⟩ := hrel
          have hp := HP.out
          cases gk with
          | zero => exact absurd HP.out (fun h => by omega)
          | succ k1 =>
            have hpc : p = 0 ∨ p = 1 ∨ p = 2 ∨ p = 3 ∨ p = 4 := by omega
            clear hp
            rcases hpc with rfl | rfl | rfl | rfl | rfl
            · have hnx : (Instr.next (.pointer (some ⟨kI, 0, none⟩)) true 0).run Try.prog wr = .ok (.tuple #[.bool true, .int .i64 (0 : Nat), .int .i32 ((66 : UInt8).toNat : Int)]) (wr.iterAt kI (⟨#[66, 76, 82, 84]⟩ : ByteArray) (0 + 1)) := Lib.run_next_ascii_at wr kI (⟨#[66, 76, 82, 84]⟩ : ByteArray) 0 0 HK.out (by decide) (by decide)
              rw [show ((66 : UInt8).toNat : Int) = 66 from rfl] at hnx
              obtain ⟨j1, j2⟩ := SInv.step (q := 0 + 1) HI.out HFk.out HK.out HWS.out
              have HI2 := Aside0.mk j1
              have HK2 := Aside0.mk j2
              have HT2 := Aside0.mk (HT.out.trans (show SKept F wr (wr.iterAt kI (⟨#[66, 76, 82, 84]⟩ : ByteArray) (0 + 1)) from ⟨by rw [Lib.iterAt_size]; exact Nat.le_refl _, fun k hk => Lib.iterAt_other _ _ _ _ _ (HFF.out k hk).2⟩))
              have hcv : (convert 21 9 (.int .i32 66)).run Try.prog (wr.iterAt kI (⟨#[66, 76, 82, 84]⟩ : ByteArray) (0 + 1)) = .ok (.string (⟨#[66]⟩ : ByteArray)) (wr.iterAt kI (⟨#[66, 76, 82, 84]⟩ : ByteArray) (0 + 1)) := by rfl
              clear j1 j2
              obtain ⟨HA1, HA2⟩ := HA.out
              have hpart : schP (schL n) (a + 1) (c + 1) s 66 = schL n (a + 1) c (s ++ (⟨#[66]⟩ : ByteArray)) := by unfold schP; simp
              have hrest : rest = schL n (a + 1) c (s ++ (⟨#[66]⟩ : ByteArray)) ++ (([66, 76, 82, 84] : List UInt8).drop (0 + 1)).foldr (fun ch r => schP (schL n) (a + 1) (c + 1) s ch ++ r) [] := by rw [← hpart]; exact HA2
              have HLEN := Aside0.mk (show (l ++ acc).length + (schL n (a + 1) c (s ++ (⟨#[66]⟩ : ByteArray))).length ≤ 100000 by have h1 := HL.out; rw [HA1, hrest] at h1; simp only [List.length_append] at h1 ⊢; omega)
              have HRE := Aside0.mk hrest
              have HA3 := Aside0.mk HA1
              clear HA HA1 HA2 hpart hrest HI HK HT
              generalize wr.iterAt kI (⟨#[66, 76, 82, 84]⟩ : ByteArray) (0 + 1) = w3 at hnx HI2 HK2 HT2 hcv ⊢
              go_wp2_with (go_at_call 22; ( refine (HIH.out (a + 1) c (s ++ (⟨#[66]⟩ : ByteArray)) (l ++ acc) F' _ ?z0 ?z1 HLEN.out HI2.out).mono ?_); (case z0 => have := HC.out; omega); (case z1 => have := HS.out; rw [ByteArray.size_append]; show s.size + 1 + n ≤ 100; omega); rintro e w4 ⟨rfl, hI4, hk4⟩; have HI4 := Aside0.mk hI4; have HK4 := Aside0.mk hk4; clear hI4 hk4)
              go_roundg k1
              case measure => omega
              case rel => exact ⟨0 + 1, acc ++ schL n (a + 1) c (s ++ (⟨#[66]⟩ : ByteArray)), _, ⟨by have := HP.out; omega, by omega⟩, ⟨(HK4.out.2 kI HFk.out).trans HK2.out⟩, ⟨by rw [← List.append_assoc]; exact HI4.out⟩, ⟨HT2.out.trans (HK4.out.sub (fun k hk => (HFF.out k hk).1))⟩, ⟨by rw [HA3.out, HRE.out, List.append_assoc], rfl⟩⟩
            · have hnx : (Instr.next (.pointer (some ⟨kI, 0, none⟩)) true 0).run Try.prog wr = .ok (.tuple #[.bool true, .int .i64 (1 : Nat), .int .i32 ((76 : UInt8).toNat : Int)]) (wr.iterAt kI (⟨#[66, 76, 82, 84]⟩ : ByteArray) (1 + 1)) := Lib.run_next_ascii_at wr kI (⟨#[66, 76, 82, 84]⟩ : ByteArray) 1 0 HK.out (by decide) (by decide)
              rw [show ((76 : UInt8).toNat : Int) = 76 from rfl] at hnx
              obtain ⟨j1, j2⟩ := SInv.step (q := 1 + 1) HI.out HFk.out HK.out HWS.out
              have HI2 := Aside0.mk j1
              have HK2 := Aside0.mk j2
              have HT2 := Aside0.mk (HT.out.trans (show SKept F wr (wr.iterAt kI (⟨#[66, 76, 82, 84]⟩ : ByteArray) (1 + 1)) from ⟨by rw [Lib.iterAt_size]; exact Nat.le_refl _, fun k hk => Lib.iterAt_other _ _ _ _ _ (HFF.out k hk).2⟩))
              have hcv : (convert 21 9 (.int .i32 76)).run Try.prog (wr.iterAt kI (⟨#[66, 76, 82, 84]⟩ : ByteArray) (1 + 1)) = .ok (.string (⟨#[76]⟩ : ByteArray)) (wr.iterAt kI (⟨#[66, 76, 82, 84]⟩ : ByteArray) (1 + 1)) := by rfl
              clear j1 j2
              obtain ⟨HA1, HA2⟩ := HA.out
              have hpart : schP (schL n) (a + 1) (c + 1) s 76 = schL n a (c + 1) (s ++ (⟨#[76]⟩ : ByteArray)) := by unfold schP; simp
              have hrest : rest = schL n a (c + 1) (s ++ (⟨#[76]⟩ : ByteArray)) ++ (([66, 76, 82, 84] : List UInt8).drop (1 + 1)).foldr (fun ch r => schP (schL n) (a + 1) (c + 1) s ch ++ r) [] := by rw [← hpart]; exact HA2
              have HLEN := Aside0.mk (show (l ++ acc).length + (schL n a (c + 1) (s ++ (⟨#[76]⟩ : ByteArray))).length ≤ 100000 by have h1 := HL.out; rw [HA1, hrest] at h1; simp only [List.length_append] at h1 ⊢; omega)
              have HRE := Aside0.mk hrest
              have HA3 := Aside0.mk HA1
              clear HA HA1 HA2 hpart hrest HI HK HT
              generalize wr.iterAt kI (⟨#[66, 76, 82, 84]⟩ : ByteArray) (1 + 1) = w3 at hnx HI2 HK2 HT2 hcv ⊢
              go_wp2_with (go_at_call 22; ( refine (HIH.out a (c + 1) (s ++ (⟨#[76]⟩ : ByteArray)) (l ++ acc) F' _ ?z0 ?z1 HLEN.out HI2.out).mono ?_); (case z0 => have := HC.out; omega); (case z1 => have := HS.out; rw [ByteArray.size_append]; show s.size + 1 + n ≤ 100; omega); rintro e w4 ⟨rfl, hI4, hk4⟩; have HI4 := Aside0.mk hI4; have HK4 := Aside0.mk hk4; clear hI4 hk4)
              go_roundg k1
              case measure => omega
              case rel => exact ⟨1 + 1, acc ++ schL n a (c + 1) (s ++ (⟨#[76]⟩ : ByteArray)), _, ⟨by have := HP.out; omega, by omega⟩, ⟨(HK4.out.2 kI HFk.out).trans HK2.out⟩, ⟨by rw [← List.append_assoc]; exact HI4.out⟩, ⟨HT2.out.trans (HK4.out.sub (fun k hk => (HFF.out k hk).1))⟩, ⟨by rw [HA3.out, HRE.out, List.append_assoc], rfl⟩⟩
            · have hnx : (Instr.next (.pointer (some ⟨kI, 0, none⟩)) true 0).run Try.prog wr = .ok (.tuple #[.bool true, .int .i64 (2 : Nat), .int .i32 ((82 : UInt8).toNat : Int)]) (wr.iterAt kI (⟨#[66, 76, 82, 84]⟩ : ByteArray) (2 + 1)) := Lib.run_next_ascii_at wr kI (⟨#[66, 76, 82, 84]⟩ : ByteArray) 2 0 HK.out (by decide) (by decide)
              rw [show ((82 : UInt8).toNat : Int) = 82 from rfl] at hnx
              obtain ⟨j1, j2⟩ := SInv.step (q := 2 + 1) HI.out HFk.out HK.out HWS.out
              have HI2 := Aside0.mk j1
              have HK2 := Aside0.mk j2
              have HT2 := Aside0.mk (HT.out.trans (show SKept F wr (wr.iterAt kI (⟨#[66, 76, 82, 84]⟩ : ByteArray) (2 + 1)) from ⟨by rw [Lib.iterAt_size]; exact Nat.le_refl _, fun k hk => Lib.iterAt_other _ _ _ _ _ (HFF.out k hk).2⟩))
              have hcv : (convert 21 9 (.int .i32 82)).run Try.prog (wr.iterAt kI (⟨#[66, 76, 82, 84]⟩ : ByteArray) (2 + 1)) = .ok (.string (⟨#[82]⟩ : ByteArray)) (wr.iterAt kI (⟨#[66, 76, 82, 84]⟩ : ByteArray) (2 + 1)) := by rfl
              clear j1 j2
              obtain ⟨HA1, HA2⟩ := HA.out
              have hpart : schP (schL n) (a + 1) (c + 1) s 82 = schL n a (c + 1) (s ++ (⟨#[82]⟩ : ByteArray)) := by unfold schP; simp
              have hrest : rest = schL n a (c + 1) (s ++ (⟨#[82]⟩ : ByteArray)) ++ (([66, 76, 82, 84] : List UInt8).drop (2 + 1)).foldr (fun ch r => schP (schL n) (a + 1) (c + 1) s ch ++ r) [] := by rw [← hpart]; exact HA2
              have HLEN := Aside0.mk (show (l ++ acc).length + (schL n a (c + 1) (s ++ (⟨#[82]⟩ : ByteArray))).length ≤ 100000 by have h1 := HL.out; rw [HA1, hrest] at h1; simp only [List.length_append] at h1 ⊢; omega)
              have HRE := Aside0.mk hrest
              have HA3 := Aside0.mk HA1
              clear HA HA1 HA2 hpart hrest HI HK HT
              generalize wr.iterAt kI (⟨#[66, 76, 82, 84]⟩ : ByteArray) (2 + 1) = w3 at hnx HI2 HK2 HT2 hcv ⊢
              go_wp2_with (go_at_call 22; ( refine (HIH.out a (c + 1) (s ++ (⟨#[82]⟩ : ByteArray)) (l ++ acc) F' _ ?z0 ?z1 HLEN.out HI2.out).mono ?_); (case z0 => have := HC.out; omega); (case z1 => have := HS.out; rw [ByteArray.size_append]; show s.size + 1 + n ≤ 100; omega); rintro e w4 ⟨rfl, hI4, hk4⟩; have HI4 := Aside0.mk hI4; have HK4 := Aside0.mk hk4; clear hI4 hk4)
              go_roundg k1
              case measure => omega
              case rel => exact ⟨2 + 1, acc ++ schL n a (c + 1) (s ++ (⟨#[82]⟩ : ByteArray)), _, ⟨by have := HP.out; omega, by omega⟩, ⟨(HK4.out.2 kI HFk.out).trans HK2.out⟩, ⟨by rw [← List.append_assoc]; exact HI4.out⟩, ⟨HT2.out.trans (HK4.out.sub (fun k hk => (HFF.out k hk).1))⟩, ⟨by rw [HA3.out, HRE.out, List.append_assoc], rfl⟩⟩
            · have hnx : (Instr.next (.pointer (some ⟨kI, 0, none⟩)) true 0).run Try.prog wr = .ok (.tuple #[.bool true, .int .i64 (3 : Nat), .int .i32 ((84 : UInt8).toNat : Int)]) (wr.iterAt kI (⟨#[66, 76, 82, 84]⟩ : ByteArray) (3 + 1)) := Lib.run_next_ascii_at wr kI (⟨#[66, 76, 82, 84]⟩ : ByteArray) 3 0 HK.out (by decide) (by decide)
              rw [show ((84 : UInt8).toNat : Int) = 84 from rfl] at hnx
              obtain ⟨j1, j2⟩ := SInv.step (q := 3 + 1) HI.out HFk.out HK.out HWS.out
              have HI2 := Aside0.mk j1
              have HK2 := Aside0.mk j2
              have HT2 := Aside0.mk (HT.out.trans (show SKept F wr (wr.iterAt kI (⟨#[66, 76, 82, 84]⟩ : ByteArray) (3 + 1)) from ⟨by rw [Lib.iterAt_size]; exact Nat.le_refl _, fun k hk => Lib.iterAt_other _ _ _ _ _ (HFF.out k hk).2⟩))
              have hcv : (convert 21 9 (.int .i32 84)).run Try.prog (wr.iterAt kI (⟨#[66, 76, 82, 84]⟩ : ByteArray) (3 + 1)) = .ok (.string (⟨#[84]⟩ : ByteArray)) (wr.iterAt kI (⟨#[66, 76, 82, 84]⟩ : ByteArray) (3 + 1)) := by rfl
              clear j1 j2
              obtain ⟨HA1, HA2⟩ := HA.out
              have hpart : schP (schL n) (a + 1) (c + 1) s 84 = schL n (a + 1) c (s ++ (⟨#[84]⟩ : ByteArray)) := by unfold schP; simp
              have hrest : rest = schL n (a + 1) c (s ++ (⟨#[84]⟩ : ByteArray)) ++ (([66, 76, 82, 84] : List UInt8).drop (3 + 1)).foldr (fun ch r => schP (schL n) (a + 1) (c + 1) s ch ++ r) [] := by rw [← hpart]; exact HA2
              have HLEN := Aside0.mk (show (l ++ acc).length + (schL n (a + 1) c (s ++ (⟨#[84]⟩ : ByteArray))).length ≤ 100000 by have h1 := HL.out; rw [HA1, hrest] at h1; simp only [List.length_append] at h1 ⊢; omega)
              have HRE := Aside0.mk hrest
              have HA3 := Aside0.mk HA1
              clear HA HA1 HA2 hpart hrest HI HK HT
              generalize wr.iterAt kI (⟨#[66, 76, 82, 84]⟩ : ByteArray) (3 + 1) = w3 at hnx HI2 HK2 HT2 hcv ⊢
              go_wp2_with (go_at_call 22; ( refine (HIH.out (a + 1) c (s ++ (⟨#[84]⟩ : ByteArray)) (l ++ acc) F' _ ?z0 ?z1 HLEN.out HI2.out).mono ?_); (case z0 => have := HC.out; omega); (case z1 => have := HS.out; rw [ByteArray.size_append]; show s.size + 1 + n ≤ 100; omega); rintro e w4 ⟨rfl, hI4, hk4⟩; have HI4 := Aside0.mk hI4; have HK4 := Aside0.mk hk4; clear hI4 hk4)
              go_roundg k1
              case measure => omega
              case rel => exact ⟨3 + 1, acc ++ schL n (a + 1) c (s ++ (⟨#[84]⟩ : ByteArray)), _, ⟨by have := HP.out; omega, by omega⟩, ⟨(HK4.out.2 kI HFk.out).trans HK2.out⟩, ⟨by rw [← List.append_assoc]; exact HI4.out⟩, ⟨HT2.out.trans (HK4.out.sub (fun k hk => (HFF.out k hk).1))⟩, ⟨by rw [HA3.out, HRE.out, List.append_assoc], rfl⟩⟩
            · have hnx : (Instr.next (.pointer (some ⟨kI, 0, none⟩)) true 0).run Try.prog wr = .ok (.tuple #[.bool false]) wr := Lib.run_next_end_at wr kI (⟨#[66, 76, 82, 84]⟩ : ByteArray) 4 0 HK.out (by decide)
              obtain ⟨HA1, HA2⟩ := HA.out
              have HE := Aside0.mk (show l ++ schL (n + 1) (a + 1) (c + 1) s = l ++ acc by rw [HA1, HA2]; simp)
              clear HA HA1 HA2
              go_wp2
              go_ret
              exact ⟨rfl, by rw [HE.out]; exact HI.out.less (fun k hk => (HFF.out k hk).1), HT.out⟩
set_option maxHeartbeats 4000000 in
set_option maxRecDepth 100000 in
theorem impl_SchemesOf.calls (k : Nat) (a0 : Int) (a1 : Int) (r1 : List ByteArray) (r2 : Int) (w : World) (h : impl_SchemesOf.f k a0 a1 = some (r1, r2)) :
    Calls Try.prog 9 #[.int .i64 a0, .int .i64 a1] w fun e w' => ∃ v0_ : Value, e = .returned (.tuple #[v0_, .int .i64 r2]) ∧ Kd.R Kd.string 9 w' w.heap.size (fun _ => True) v0_ r1 ∧ Below w.heap.size w w' := by
  unfold impl_SchemesOf.f at h
  obtain ⟨t, ht, h0⟩ := Option.bind_eq_some_iff.1 h
  clear h
  have h := h0
  clear h0
  have HT := Aside0.mk ht
  clear ht
  have hmf : ∀ (fn : Fn) (first cap : Array Value) (w : World), (Instr.makeFunc fn first cap).run Try.prog w = .ok (.func fn first cap) w := fun _ _ _ _ => rfl
  cases t with
  | false =>
    rw [if_neg (by simp)] at h
    injection h with h
    injection h with e1 e2
    subst e1 e2
    go_enter Try.func9, Try.ntmps9
    go_wp2_with (go_at_call 21; (with_reducible refine (impl_isSheet.calls a0 a1 false _ HT.out).mono ?_); rintro e w1 ⟨rfl, hb1⟩; have HB1 := Aside0.mk hb1; clear hb1)
    go_ret2
    obtain ⟨nd, rfl⟩ := HB1.out
    exact ⟨_, rfl, Kd.R_nil _ _ _ _ _, pw_below_drewN (Below.refl _ _) _⟩
  | true =>
    rw [if_pos rfl] at h
    obtain ⟨x, hx, h2⟩ := Option.bind_eq_some_iff.1 h
    clear h
    obtain ⟨y, hy, h⟩ := Option.bind_eq_some_iff.1 h2
    clear h2
    by_cases hc : 0 ≤ x ∧ x ≤ 3 ∧ 0 ≤ y ∧ y ≤ 3 ∧ (schL (x.toNat + y.toNat) x.toNat y.toNat (⟨#[]⟩ : ByteArray)).length ≤ 100000
    · rw [if_pos hc] at h
      obtain ⟨p, rfl⟩ := Int.eq_ofNat_of_zero_le hc.1
      obtain ⟨q, rfl⟩ := Int.eq_ofNat_of_zero_le hc.2.2.1
      simp only [Int.toNat_natCast] at h hc
      injection h with h
      injection h with e1 e2
      subst e1 e2
      have HX := Aside0.mk hx
      have HY := Aside0.mk hy
      have HC := Aside0.mk hc
      clear hx hy hc
      go_enter Try.func9, Try.ntmps9
      go_wp2_with (first | (go_at_call 21; (with_reducible refine (impl_isSheet.calls a0 a1 true _ HT.out).mono ?_); rintro e w1 ⟨rfl, ⟨nd, rfl⟩⟩; have HB1 := Aside0.mk (pw_below_drewN (Below.refl w.heap.size w) nd); generalize w.drewN nd = w1 at HB1 ⊢))
      have HI0 := Aside0.mk (SInv.start HB1.out)
      obtain ⟨g, hg⟩ : ∃ g : Nat, w1.heap.size = g := ⟨_, rfl⟩
      rw [hg] at HI0 ⊢
      generalize (w1.alloc (.cells #[] 9)).alloc (.cells #[.slice (some ⟨g, 0, none⟩) 0 0] 25) = w2 at HI0 ⊢
      refine (impl_halvings.calls k a0 p _ HX.out).mono ?_
      rintro e w3 ⟨rfl, hd3⟩
      obtain ⟨nd3, rfl⟩ := hd3
      have HI3 := Aside0.mk (HI0.out.below (pw_below_drewN (Below.refl _ _) nd3))
      clear HI0
      generalize w2.drewN nd3 = w3 at HI3 ⊢
      go_wp2_with fail
      refine (impl_halvings.calls k a1 q _ HY.out).mono ?_
      rintro e w4 ⟨rfl, hd4⟩
      obtain ⟨nd4, rfl⟩ := hd4
      have HI4 := Aside0.mk (HI3.out.below (pw_below_drewN (Below.refl _ _) nd4))
      clear HI3
      generalize w3.drewN nd4 = w4 at HI4 ⊢
      go_wp2_with fail
      refine (st_calls w (g + 1) (p + q) p q (⟨#[]⟩ : ByteArray) [] (fun _ => False) _ rfl (by have := HC.out; show 0 + (p + q) ≤ 100; omega) (by have := HC.out; rw [List.length_nil]; omega) HI4.out).mono ?_
      rintro e w5 ⟨rfl, hI5, _⟩
      obtain ⟨hB5, _, _, v5, hx5, hR5⟩ := hI5
      rw [List.nil_append] at hR5
      have hc5 : w5.cell? ⟨g + 1, 0, none⟩ = some v5 := (Lib.cell_of_heap hx5 0).trans rfl
      obtain ⟨A5, c5, rfl⟩ := Kd.R_slice hR5
      have HR5 := Aside0.mk hR5
      have HB5 := Aside0.mk hB5
      clear hR5 hB5 hx5
      go_wp2
      go_ret2
      exact ⟨_, rfl, Kd.R_mono HR5.out (fun _ _ => trivial), HB5.out⟩
    · rw [if_neg hc] at h; cases h

/-! ### laws_eqStringS: function 10 -/
def laws_eqStringS.l0 : Nat → List ByteArray → List ByteArray → Int → Option (Bool)
  | 0, _, _, _ => none
  | k + 1, x0, x1, x5 => if x5 < (x0.length : Int) then (if 0 ≤ x5 then (if x5 < (x1.length : Int) then (if (rdOf ByteArray.empty x0 x5).toList = (rdOf ByteArray.empty x1 x5).toList then (laws_eqStringS.l0 k x0 x1 (wrap64 (x5 + 1))) else (some false)) else (none)) else (none)) else (some true)
def laws_eqStringS.f (k : Nat) (l0 : List ByteArray) (l1 : List ByteArray) : Option (Bool) := if (l0.length : Int) = (l1.length : Int) then (laws_eqStringS.l0 k l0 l1 0) else (some false)
theorem laws_eqStringS.mono_l : ∀ k, (∀ y0 y1 y2, LeO (laws_eqStringS.l0 k y0 y1 y2) (laws_eqStringS.l0 (k + 1) y0 y1 y2))
  | 0 => fun _ _ _ r h => by simp [laws_eqStringS.l0] at h
  | k + 1 => by
    have ih0 := laws_eqStringS.mono_l k
    · intro y0 y1 y2
      unfold laws_eqStringS.l0
      repeat' first
      | (with_reducible exact ih0 _ _ _)
      | (with_reducible exact LeO.refl _)
      | (with_reducible exact LeO.none _)
      | (with_reducible refine LeO.ite ?_ ?_)
      | (with_reducible refine LeO.bind ?_ (fun _ => ?_))
      | exact ih0 _ _ _
      | exact LeO.none _
      | refine LeO.ite ?_ ?_
      | refine LeO.bind ?_ (fun _ => ?_)
theorem laws_eqStringS.mono : ∀ a0 a1 k, LeO (laws_eqStringS.f k a0 a1) (laws_eqStringS.f (k + 1) a0 a1) := by
  intro a0 a1 k
  have ih0 := laws_eqStringS.mono_l k
  unfold laws_eqStringS.f
  repeat' first
      | (with_reducible exact ih0 _ _ _)
      | (with_reducible exact LeO.refl _)
      | (with_reducible exact LeO.none _)
      | (with_reducible refine LeO.ite ?_ ?_)
      | (with_reducible refine LeO.bind ?_ (fun _ => ?_))
      | exact ih0 _ _ _
      | exact LeO.none _
      | refine LeO.ite ?_ ?_
      | refine LeO.bind ?_ (fun _ => ?_)
set_option maxHeartbeats 8000000 in
set_option maxRecDepth 100000 in
theorem laws_eqStringS.calls (k : Nat) (A0 : Option Addr) (c0 : Nat) (l0 : List ByteArray) (A1 : Option Addr) (c1 : Nat) (l1 : List ByteArray) (r : Bool) (w : World) (hr0 : Kd.C Kd.string w A0 l0.length l0) (hc0 : l0.length ≤ c0) (hr1 : Kd.C Kd.string w A1 l1.length l1) (hc1 : l1.length ≤ c1) (h : laws_eqStringS.f k l0 l1 = some r) :
    Calls Try.prog 10 #[.slice A0 l0.length c0, .slice A1 l1.length c1] w fun e w' => e = .returned (.bool r) ∧ Drawn0 w w' := by
  have HR0 := Aside0.mk hr0
  have HC0 := Aside0.mk hc0
  clear hr0 hc0
  have HR1 := Aside0.mk hr1
  have HC1 := Aside0.mk hc1
  clear hr1 hc1
  have H : (if (l0.length : Int) = (l1.length : Int) then (laws_eqStringS.l0 k l0 l1 0) else (some false)) = some r := h
  clear h
  by_cases c3 : (l0.length : Int) = (l1.length : Int)
  · rw [if_pos c3] at H
    have c3b0 : ((l0.length : Int) == (l1.length : Int)) = true := beq_iff_eq.mpr c3
    have c3b1 : ((l0.length : Int) != (l1.length : Int)) = false := bne_eq_false_iff_eq.mpr c3
    have c3b2 : (l0.length == l1.length) = true := by first | simpa using c3 | (simp at c3 ⊢; omega)
    clear c3
    have H' := Aside0.mk H
    clear H
    go_enter Try.func10, Try.ntmps10
    go_wp2
    repeat (go_quiet (fail); try go_wp2)
    go_loopg [5] k (fun kq v5 w' => ∃ (x5_1 : Int), v5 = .int .i64 x5_1 ∧ Aside0 (laws_eqStringS.l0 kq l0 l1 x5_1 = some r) ∧ Aside0 (kq ≤ k) ∧ Drawn0 w w')
    case atStart => exact ⟨(0), (by first | rfl | (simp; done) | (simp [*]; done)), H', ⟨Nat.le_refl _⟩, by repeat (first | exact Drawn0.refl _ | apply Drawn0.step)⟩
    case round =>
      clear H'
      try clear c1
      try clear p2
      try clear c3
      try clear c3b0
      try clear c3b1
      try clear c3b2
      obtain ⟨x5_1, rfl, HA, HK1, ⟨m1, rfl⟩⟩ := hrel
      cases gk with
      | zero => exact absurd HA.out (by simp [laws_eqStringS.l0])
      | succ k1 =>
        have H := HA.out
        clear HA
        simp only [laws_eqStringS.l0] at H
        by_cases c4 : x5_1 < (l0.length : Int)
        · rw [if_pos c4] at H
          have c4b0 : decide (x5_1 < (l0.length : Int)) = true := decide_eq_true c4
          clear c4
          by_cases c5 : 0 ≤ x5_1
          · rw [if_pos c5] at H
            have c5b0 : decide (0 ≤ x5_1) = true := decide_eq_true c5
            clear c5
            by_cases c6 : x5_1 < (l1.length : Int)
            · rw [if_pos c6] at H
              have c6b0 : decide (x5_1 < (l1.length : Int)) = true := decide_eq_true c6
              clear c6
              by_cases c7 : (rdOf ByteArray.empty l0 x5_1).toList = (rdOf ByteArray.empty l1 x5_1).toList
              · rw [if_pos c7] at H
                have c7b0 : ((rdOf ByteArray.empty l0 x5_1).toList == (rdOf ByteArray.empty l1 x5_1).toList) = true := beq_iff_eq.mpr c7
                have c7b1 : ((rdOf ByteArray.empty l0 x5_1).toList != (rdOf ByteArray.empty l1 x5_1).toList) = false := bne_eq_false_iff_eq.mpr c7
                clear c7
                have H' := Aside0.mk H
                clear H
                have p154 : 0 ≤ (x5_1 : Int) := of_decide_eq_true (by first | (with_reducible assumption) | assumption)
                have q154 : x5_1 < (l0.length : Int) := of_decide_eq_true (by first | (with_reducible assumption) | assumption)
                obtain ⟨ad154, e154, hx154_0⟩ := Kd.at_string HR0.out x5_1 p154 q154
                cases e154
                replace p154 := eq_true p154
                replace q154 := eq_true q154
                have p155 : 0 ≤ (x5_1 : Int) := of_decide_eq_true (by first | (with_reducible assumption) | assumption)
                have q155 : x5_1 < (l1.length : Int) := of_decide_eq_true (by first | (with_reducible assumption) | assumption)
                obtain ⟨ad155, e155, hx155_0⟩ := Kd.at_string HR1.out x5_1 p155 q155
                cases e155
                replace p155 := eq_true p155
                replace q155 := eq_true q155
                go_wp2
                repeat (go_quiet (fail); try go_wp2)
                go_roundg k1
                case measure => have := HK1.out; omega
                case rel => exact ⟨(wrap64 (x5_1 + 1)), (by first | rfl | (simp; done) | (simp [*]; done)), H', ⟨by have := HK1.out; omega⟩, by repeat (first | exact Drawn0.refl _ | apply Drawn0.step)⟩
              · rw [if_neg c7] at H
                have c7b0 : ((rdOf ByteArray.empty l0 x5_1).toList == (rdOf ByteArray.empty l1 x5_1).toList) = false := beq_eq_false_iff_ne.mpr c7
                have c7b1 : ((rdOf ByteArray.empty l0 x5_1).toList != (rdOf ByteArray.empty l1 x5_1).toList) = true := bne_iff_ne.mpr c7
                obtain rfl := Option.some.inj H
                have p154 : 0 ≤ (x5_1 : Int) := of_decide_eq_true (by first | (with_reducible assumption) | assumption)
                have q154 : x5_1 < (l0.length : Int) := of_decide_eq_true (by first | (with_reducible assumption) | assumption)
                obtain ⟨ad154, e154, hx154_0⟩ := Kd.at_string HR0.out x5_1 p154 q154
                cases e154
                replace p154 := eq_true p154
                replace q154 := eq_true q154
                have p155 : 0 ≤ (x5_1 : Int) := of_decide_eq_true (by first | (with_reducible assumption) | assumption)
                have q155 : x5_1 < (l1.length : Int) := of_decide_eq_true (by first | (with_reducible assumption) | assumption)
                obtain ⟨ad155, e155, hx155_0⟩ := Kd.at_string HR1.out x5_1 p155 q155
                cases e155
                replace p155 := eq_true p155
                replace q155 := eq_true q155
                go_wp2
                repeat (go_quiet (fail); try go_wp2)
                go_ret
                exact ⟨by first | rfl | (simp only [Go.IntWalk.i64_left]; first | done | rfl) | (simp; done) | (simp [*]; done), by repeat (first | exact Drawn0.refl _ | apply Drawn0.step)⟩
            · rw [if_neg c6] at H
              exact absurd H (by simp)
          · rw [if_neg c5] at H
            exact absurd H (by simp)
        · rw [if_neg c4] at H
          have c4b0 : decide (x5_1 < (l0.length : Int)) = false := decide_eq_false c4
          clear c4
          obtain rfl := Option.some.inj H
          go_wp2
          repeat (go_quiet (fail); try go_wp2)
          go_ret
          exact ⟨by first | rfl | (simp only [Go.IntWalk.i64_left]; first | done | rfl) | (simp; done) | (simp [*]; done), by repeat (first | exact Drawn0.refl _ | apply Drawn0.step)⟩
  · rw [if_neg c3] at H
    have c3b0 : ((l0.length : Int) == (l1.length : Int)) = false := beq_eq_false_iff_ne.mpr c3
    have c3b1 : ((l0.length : Int) != (l1.length : Int)) = true := bne_iff_ne.mpr c3
    have c3b2 : (l0.length == l1.length) = false := by first | simpa using c3 | (simp at c3 ⊢; omega)
    obtain rfl := Option.some.inj H
    go_enter Try.func10, Try.ntmps10
    go_wp2
    repeat (go_quiet (fail); try go_wp2)
    go_ret
    exact ⟨by first | rfl | (simp only [Go.IntWalk.i64_left]; first | done | rfl) | (simp; done) | (simp [*]; done), by repeat (first | exact Drawn0.refl _ | apply Drawn0.step)⟩

/-! ### laws_markText: function 25 -/
def laws_markText.l0 : Nat → Int → ByteArray → Option (ByteArray)
  | 0, _, _ => none
  | k + 1, x0, x3 => if x0 > 0 then ((some (([(wrap64 (48 + (Int.tmod x0 10))) % 256] : List Int) : List Int)).bind fun y156 => (if (strOfNums y156).size + x3.size ≤ 9223372036854775807 then (laws_markText.l0 k (wrap64 (Int.tdiv x0 10)) ((strOfNums y156) ++ x3)) else (none))) else (if 1 + x3.size ≤ 9223372036854775807 then (some ((⟨#[109]⟩ : ByteArray) ++ x3)) else (none))
def laws_markText.f (k : Nat) (a0 : Int) : Option (ByteArray) := if a0 ≤ 0 then (some (⟨#[109, 48]⟩ : ByteArray)) else (laws_markText.l0 k a0 (⟨#[]⟩ : ByteArray))
theorem laws_markText.mono_l : ∀ k, (∀ y0 y1, LeO (laws_markText.l0 k y0 y1) (laws_markText.l0 (k + 1) y0 y1))
  | 0 => fun _ _ r h => by simp [laws_markText.l0] at h
  | k + 1 => by
    have ih0 := laws_markText.mono_l k
    · intro y0 y1
      unfold laws_markText.l0
      repeat' first
      | (with_reducible exact ih0 _ _)
      | (with_reducible exact LeO.refl _)
      | (with_reducible exact LeO.none _)
      | (with_reducible refine LeO.ite ?_ ?_)
      | (with_reducible refine LeO.bind ?_ (fun _ => ?_))
      | exact ih0 _ _
      | exact LeO.none _
      | refine LeO.ite ?_ ?_
      | refine LeO.bind ?_ (fun _ => ?_)
theorem laws_markText.mono : ∀ a0 k, LeO (laws_markText.f k a0) (laws_markText.f (k + 1) a0) := by
  intro a0 k
  have ih0 := laws_markText.mono_l k
  unfold laws_markText.f
  repeat' first
      | (with_reducible exact ih0 _ _)
      | (with_reducible exact LeO.refl _)
      | (with_reducible exact LeO.none _)
      | (with_reducible refine LeO.ite ?_ ?_)
      | (with_reducible refine LeO.bind ?_ (fun _ => ?_))
      | exact ih0 _ _
      | exact LeO.none _
      | refine LeO.ite ?_ ?_
      | refine LeO.bind ?_ (fun _ => ?_)
set_option maxHeartbeats 8000000 in
set_option maxRecDepth 100000 in
theorem laws_markText.calls (k : Nat) (a0 : Int) (r : ByteArray) (w : World) (h : laws_markText.f k a0 = some r) :
    Calls Try.prog 25 #[.int .i64 a0] w fun e w' => e = .returned (.string r) ∧ Below w.heap.size w w' := by
  have HB := Aside0.mk (Below.refl w.heap.size w)
  have H : (if a0 ≤ 0 then (some (⟨#[109, 48]⟩ : ByteArray)) else (laws_markText.l0 k a0 (⟨#[]⟩ : ByteArray))) = some r := h
  clear h
  by_cases c2 : a0 ≤ 0
  · rw [if_pos c2] at H
    have c2b0 : decide (a0 ≤ 0) = true := decide_eq_true c2
    clear c2
    obtain rfl := Option.some.inj H
    go_enter Try.func25, Try.ntmps25
    go_wp2
    go_ret
    exact ⟨by first | rfl | (simp only [Go.IntWalk.i64_left]; first | done | rfl) | (simp [errW_none, errW_some] <;> rfl) | (simp [*, errW_none, errW_some] <;> rfl), by repeat (first | (with_reducible first | exact HB.out | apply below_alloc | apply pw_below_drewN | apply below_drew1) | exact HB.out)⟩
  · rw [if_neg c2] at H
    have c2b0 : decide (a0 ≤ 0) = false := decide_eq_false c2
    clear c2
    have H' := Aside0.mk H
    clear H
    go_enter Try.func25, Try.ntmps25
    go_wp2
    go_loopg [0, 3] k (fun kq v0 v3 w' => ∃ (x0_1 : Int) (x3_1 : ByteArray), v0 = .int .i64 x0_1 ∧ v3 = .string x3_1 ∧ Aside0 (laws_markText.l0 kq x0_1 x3_1 = some r) ∧ Aside0 (kq ≤ k) ∧ Aside0 (Below w.heap.size w w'))
    case atStart => exact ⟨(a0), ((⟨#[]⟩ : ByteArray)), (by first | rfl | (simp; done) | (simp [*]; done)), (by first | rfl | (simp; done) | (simp [*]; done)), H', ⟨Nat.le_refl _⟩, ⟨by repeat (first | (with_reducible first | exact HB.out | apply below_alloc | apply pw_below_drewN | apply below_drew1) | exact HB.out)⟩⟩
    case round =>
      clear H'
      try clear c2
      try clear c2b0
      try clear p2
      obtain ⟨x0_1, x3_1, rfl, rfl, HA, HK1, HB⟩ := hrel
      cases gk with
      | zero => exact absurd HA.out (by simp [laws_markText.l0])
      | succ k1 =>
        have H := HA.out
        clear HA
        simp only [laws_markText.l0] at H
        by_cases c3 : x0_1 > 0
        · rw [if_pos c3] at H
          have c3b0 : decide (0 < x0_1) = true := decide_eq_true c3
          clear c3
          obtain ⟨y156, hy156⟩ : ∃ y_ : List Int, y_ = (([(wrap64 (48 + (Int.tmod x0_1 10))) % 256] : List Int)) := ⟨_, rfl⟩
          replace H : (if (strOfNums y156).size + x3_1.size ≤ 9223372036854775807 then (laws_markText.l0 k1 (wrap64 (Int.tdiv x0_1 10)) ((strOfNums y156) ++ x3_1)) else (none)) = some r := by first | (rw [hy156]; with_reducible exact H) | (have H2_ := (Option.bind_some _ _).symm.trans H; rw [hy156]; with_reducible exact H2_) | (have H2_ := (Option.bind_some _ _).symm.trans H; with_reducible exact H2_) | with_reducible exact H | (rw [hy156]; exact H) | exact H
          have Ny156 := Aside0.mk hy156
          clear hy156
          by_cases c4 : (strOfNums y156).size + x3_1.size ≤ 9223372036854775807
          · rw [if_pos c4] at H
            have c4b0 := eq_true c4
            have c4b1 : decide ((strOfNums y156).size + x3_1.size ≤ 9223372036854775807) = true := decide_eq_true c4
            try have c4b2 : (9223372036854775807 < (strOfNums y156).size + x3_1.size) = False := eq_false (Nat.not_lt.2 c4)
            (try (have c4s := c4; simp only [ByteArray.size_append, ByteArray.size_extract] at c4s; have c4s0 := eq_true c4s; have c4s1 := decide_eq_true c4s; have c4s2 := eq_false (Nat.not_lt.2 c4s)))
            have H' := Aside0.mk H
            clear H
            go_wp2_with (first | ((with_reducible refine gate_dst (N := 12) rfl ?_); refine Kd.R_lit (Kd.int .u8) _ 5 ?hg (N := 12) ?hd (xs := ([(wrap64 (48 + (Int.tmod x0_1 10))) % 256] : List Int)) (inner := [.int .u8 ((wrap64 (48 + (Int.tmod x0_1 10))) % 256)]) (ok := fun _ => True) (okp := fun _ => True) ?hr ?hp (fun _ hk => hk) trivial (Below.refl _ _) (Nat.le_refl _) (by simp) ?_; (case hd => rfl); (case hg => rfl); (case hr => first | (go_simp; done) | (go_simp; rfl)); (case hp => exact (Reps.one (show Kd.M (Kd.int .u8) _ _ _ ((wrap64 (48 + (Int.tmod x0_1 10))) % 256) [.int .u8 ((wrap64 (48 + (Int.tmod x0_1 10))) % 256)] from rfl) (Reps.none _ _))); intro v157 w5 ho6 hb hg_ hnew_; clear hg_ hnew_; (first | rw [← Ny156.out] at ho6 | (simp only [Int.reduceToNat] at ho6; rw [← Ny156.out] at ho6)); have n0_ := Aside0.mk (Kd.R_lower ho6 (below_size (by repeat (first | (with_reducible first | exact HB.out | apply below_alloc | apply pw_below_drewN | apply below_drew1) | exact HB.out)))); have n1_ := Aside0.mk (below_step (by repeat (first | (with_reducible first | exact HB.out | apply below_alloc | apply pw_below_drewN | apply below_drew1) | exact HB.out)) hb); clear HB; have HO158 := n0_; have HB := n1_; clear n0_ n1_; clear hb ho6; have hcv7 := own_string (P := Try.prog) Try.underlying54 Try.underlying5 Try.underlying9 (Kd.own_of_R HO158.out)))
            go_roundg k1
            case measure => have := HK1.out; omega
            case rel => exact ⟨(wrap64 (Int.tdiv x0_1 10)), ((strOfNums y156) ++ x3_1), (by first | rfl | (simp; done) | (simp [*]; done)), (by first | rfl | (simp; done) | (simp [*]; done)), H', ⟨by have := HK1.out; omega⟩, ⟨by repeat (first | (with_reducible first | exact HB.out | apply below_alloc | apply pw_below_drewN | apply below_drew1) | exact HB.out)⟩⟩
          · rw [if_neg c4] at H
            exact absurd H (by simp)
        · rw [if_neg c3] at H
          have c3b0 : decide (0 < x0_1) = false := decide_eq_false c3
          clear c3
          by_cases c8 : 1 + x3_1.size ≤ 9223372036854775807
          · rw [if_pos c8] at H
            have c8b0 := eq_true c8
            have c8b1 : decide (1 + x3_1.size ≤ 9223372036854775807) = true := decide_eq_true c8
            try have c8b2 : (9223372036854775807 < 1 + x3_1.size) = False := eq_false (Nat.not_lt.2 c8)
            (try (have c8s := c8; simp only [ByteArray.size_append, ByteArray.size_extract] at c8s; have c8s0 := eq_true c8s; have c8s1 := decide_eq_true c8s; have c8s2 := eq_false (Nat.not_lt.2 c8s)))
            obtain rfl := Option.some.inj H
            go_wp2
            go_ret
            exact ⟨by first | rfl | (simp only [Go.IntWalk.i64_left]; first | done | rfl) | (simp [errW_none, errW_some] <;> rfl) | (simp [*, errW_none, errW_some] <;> rfl), by repeat (first | (with_reducible first | exact HB.out | apply below_alloc | apply pw_below_drewN | apply below_drew1) | exact HB.out)⟩
          · rw [if_neg c8] at H
            exact absurd H (by simp)

end Go.Proofs.Ytijbccmcfagnfaa.QFnExactSchemesOf
