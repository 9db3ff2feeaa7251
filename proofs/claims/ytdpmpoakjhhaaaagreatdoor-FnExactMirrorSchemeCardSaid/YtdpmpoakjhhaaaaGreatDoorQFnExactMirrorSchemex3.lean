-- Written by own_print.py of this session's repo over the kit's print (its output, turned at some places).
import Derived.Test.YtdpmpoakjhhaaaaGreatDoorQFnExactMirrorSchemex0
import Derived.Test.YtdpmpoakjhhaaaaGreatDoorQFnExactMirrorSchemex1
import Derived.Test.YtdpmpoakjhhaaaaGreatDoorQFnExactMirrorSchemex2
namespace Go.Proofs.YtdpmpoakjhhaaaaGreatDoor.QFnExactMirrorScheme
open Go.RowKit Go.Proofs.YtdpmpoakjhhaaaaGreatDoorW.PrintWords Go.Proofs.YtdpmpoakjhhaaaaGreatDoorW.PrintLast Go.Proofs.YtdpmpoakjhhaaaaGreatDoorW.PrintMore
attribute [local go_sem] max2_int min2_int max_two min_two max_three min_three max_four min_four   -- for this text's walks alone
set_option linter.unusedVariables false
set_option linter.unusedSimpArgs false

/-! ### impl_IsScheme -/
def lay_trim_ren : Go.Shelf.Ren := ⟨fun | 160 => 35 | 232 => 53 | 231 => 52 | 227 => 54 | 234 => 56 | 233 => 55 | 236 => 58 | 235 => 57 | 228 => 72 | 271 => 75 | 151 => 74 | 197 => 73 | 120 => 85 | 152 => 84 | 260 => 83 | 137 => 93 | 119 => 94 | 224 => 95 | 225 => 96 | 217 => 103 | 266 => 115 | n => n, fun | 9 => 9 | 4 => 4 | 3 => 3 | 5 => 5 | 117 => 76 | 116 => 75 | 0 => 0 | 124 => 79 | 21 => 21 | 105 => 112 | 46 => 99 | 119 => 130 | 139 => 139 | 138 => 138 | n => n, fun | 3 => 1 | 4 => 2 | n => n⟩
theorem lay_trim : Go.Proofs.Lays.n160 Tryz.prog lay_trim_ren := {
  mixed := by kernel_rfl
  f119 := Tryz.func94.trans (congrArg some (by kernel_rfl))
  f120 := Tryz.func85.trans (congrArg some (by kernel_rfl))
  f137 := Tryz.func93.trans (congrArg some (by kernel_rfl))
  f151 := Tryz.func74.trans (congrArg some (by kernel_rfl))
  f152 := Tryz.func84.trans (congrArg some (by kernel_rfl))
  f160 := Tryz.func35.trans (congrArg some (by kernel_rfl))
  f197 := Tryz.func73.trans (congrArg some (by kernel_rfl))
  f217 := Tryz.func103.trans (congrArg some (by kernel_rfl))
  f224 := Tryz.func95.trans (congrArg some (by kernel_rfl))
  f225 := Tryz.func96.trans (congrArg some (by kernel_rfl))
  f227 := Tryz.func54.trans (congrArg some (by kernel_rfl))
  f228 := Tryz.func72.trans (congrArg some (by kernel_rfl))
  f231 := Tryz.func52.trans (congrArg some (by kernel_rfl))
  f232 := Tryz.func53.trans (congrArg some (by kernel_rfl))
  f233 := Tryz.func55.trans (congrArg some (by kernel_rfl))
  f234 := Tryz.func56.trans (congrArg some (by kernel_rfl))
  f235 := Tryz.func57.trans (congrArg some (by kernel_rfl))
  f236 := Tryz.func58.trans (congrArg some (by kernel_rfl))
  f260 := Tryz.func83.trans (congrArg some (by kernel_rfl))
  f266 := Tryz.func115.trans (congrArg some (by kernel_rfl))
  f271 := Tryz.func75.trans (congrArg some (by kernel_rfl))
  t0 := Tryz.underlying0
  a0 := Tryz.isAgg0
  z0 := Tryz.sizeOf0
  v0 := Tryz.zeroValue0
  t3 := Tryz.underlying3
  a3 := Tryz.isAgg3
  z3 := Tryz.sizeOf3
  v3 := Tryz.zeroValue3
  t4 := Tryz.underlying4
  a4 := Tryz.isAgg4
  z4 := Tryz.sizeOf4
  v4 := Tryz.zeroValue4
  t5 := Tryz.underlying5
  a5 := Tryz.isAgg5
  z5 := Tryz.sizeOf5
  v5 := Tryz.zeroValue5
  t9 := Tryz.underlying9
  a9 := Tryz.isAgg9
  z9 := Tryz.sizeOf9
  v9 := Tryz.zeroValue9
  t21 := Tryz.underlying21
  a21 := Tryz.isAgg21
  z21 := Tryz.sizeOf21
  v21 := Tryz.zeroValue21
  t46 := Tryz.underlying99
  a46 := Tryz.isAgg99
  z46 := Tryz.sizeOf99
  v46 := Tryz.zeroValue99
  t105 := Tryz.underlying112
  a105 := Tryz.isAgg112
  z105 := Tryz.sizeOf112
  v105 := Tryz.zeroValue112
  t116 := Tryz.underlying75
  a116 := Tryz.isAgg75
  z116 := Tryz.sizeOf75
  t117 := Tryz.underlying76
  a117 := Tryz.isAgg76
  z117 := Tryz.sizeOf76
  v117 := Tryz.zeroValue76
  t119 := Tryz.underlying130
  a119 := Tryz.isAgg130
  z119 := Tryz.sizeOf130
  t124 := Tryz.underlying79
  a124 := Tryz.isAgg79
  z124 := Tryz.sizeOf79
  v124 := Tryz.zeroValue79
  t138 := Tryz.underlying138
  a138 := Tryz.isAgg138
  z138 := Tryz.sizeOf138
  v138 := Tryz.zeroValue138
  t139 := Tryz.underlying139
  a139 := Tryz.isAgg139
  z139 := Tryz.sizeOf139
  v139 := Tryz.zeroValue139
  g3 := by kernel_rfl
  g4 := by kernel_rfl }
def lay_count_ren : Go.Shelf.Ren := ⟨fun | 138 => 67 | 195 => 79 | 218 => 80 | 143 => 81 | 219 => 92 | 217 => 103 | 225 => 96 | 224 => 95 | 267 => 104 | 266 => 115 | 314 => 116 | n => n, fun | 9 => 9 | 3 => 3 | 4 => 4 | 5 => 5 | 0 => 0 | 46 => 99 | 146 => 168 | 51 => 84 | n => n, fun | 1 => 0 | n => n⟩
theorem lay_count : Go.Proofs.Lays.n138 Tryz.prog lay_count_ren := {
  mixed := by kernel_rfl
  f138 := Tryz.func67.trans (congrArg some (by kernel_rfl))
  f143 := Tryz.func81.trans (congrArg some (by kernel_rfl))
  f195 := Tryz.func79.trans (congrArg some (by kernel_rfl))
  f217 := Tryz.func103.trans (congrArg some (by kernel_rfl))
  f218 := Tryz.func80.trans (congrArg some (by kernel_rfl))
  f219 := Tryz.func92.trans (congrArg some (by kernel_rfl))
  f224 := Tryz.func95.trans (congrArg some (by kernel_rfl))
  f225 := Tryz.func96.trans (congrArg some (by kernel_rfl))
  f266 := Tryz.func115.trans (congrArg some (by kernel_rfl))
  f267 := Tryz.func104.trans (congrArg some (by kernel_rfl))
  f314 := Tryz.func116.trans (congrArg some (by kernel_rfl))
  t0 := Tryz.underlying0
  a0 := Tryz.isAgg0
  z0 := Tryz.sizeOf0
  v0 := Tryz.zeroValue0
  t3 := Tryz.underlying3
  a3 := Tryz.isAgg3
  z3 := Tryz.sizeOf3
  v3 := Tryz.zeroValue3
  t4 := Tryz.underlying4
  a4 := Tryz.isAgg4
  z4 := Tryz.sizeOf4
  v4 := Tryz.zeroValue4
  t5 := Tryz.underlying5
  a5 := Tryz.isAgg5
  z5 := Tryz.sizeOf5
  v5 := Tryz.zeroValue5
  t9 := Tryz.underlying9
  a9 := Tryz.isAgg9
  z9 := Tryz.sizeOf9
  v9 := Tryz.zeroValue9
  t46 := Tryz.underlying99
  a46 := Tryz.isAgg99
  z46 := Tryz.sizeOf99
  v46 := Tryz.zeroValue99
  t51 := Tryz.underlying84
  a51 := Tryz.isAgg84
  z51 := Tryz.sizeOf84
  v51 := Tryz.zeroValue84
  t146 := Tryz.underlying168
  a146 := Tryz.isAgg168
  z146 := Tryz.sizeOf168
  v146 := Tryz.zeroValue168
  g1 := by kernel_rfl }
def lrcount (s : ByteArray) : Nat := Go.Lib.countByte s.data.toList 76 + Go.Lib.countByte s.data.toList 82
def impl_IsScheme.f (k : Nat) (a0 a1 : Int) (a2 : ByteArray) : Option Bool := (impl_isSheet.f a0 a1).bind fun b => if b = true then (if a2.size ≤ 1048576 then (if Go.Lib.trimS a2.data.toList [76, 82, 84, 66] = [] then ((impl_halvings.f k a0).bind fun x => if (lrcount a2 : Int) = x then ((impl_halvings.f k a1).bind fun y => some (decide ((a2.size : Int) - (lrcount a2 : Int) = y))) else some false) else some false) else none) else some false
theorem impl_IsScheme.mono : ∀ a0 a1 a2 k, LeO (impl_IsScheme.f k a0 a1 a2) (impl_IsScheme.f (k + 1) a0 a1 a2) := by
  intro a0 a1 a2 k
  unfold impl_IsScheme.f
  exact LeO.bind (LeO.refl _) (fun _ => LeO.ite (LeO.ite (LeO.ite (LeO.bind (impl_halvings.mono _ _) (fun _ => LeO.ite (LeO.bind (impl_halvings.mono _ _) (fun _ => LeO.refl _)) (LeO.refl _))) (LeO.refl _)) (LeO.none _)) (LeO.refl _))
set_option maxHeartbeats 4000000 in
set_option maxRecDepth 100000 in
theorem impl_IsScheme.calls (k : Nat) (a0 a1 : Int) (a2 : ByteArray) (r : Bool) (w : World) (h : impl_IsScheme.f k a0 a1 a2 = some r) :
    Calls Tryz.prog 48 #[.int .i64 a0, .int .i64 a1, .string a2] w fun e w' => e = .returned (.bool r) ∧ Below w.heap.size w w' := by
  unfold impl_IsScheme.f at h
  obtain ⟨b, hb, h0⟩ := Option.bind_eq_some_iff.1 h
  clear h
  have HB := Aside0.mk hb
  clear hb
  cases b with
  | false =>
    rw [if_neg (by simp)] at h0
    injection h0 with e1
    subst e1
    go_enter Tryz.func48, Tryz.ntmps48
    go_wp2_with (go_at_call 47; (with_reducible refine (impl_isSheet.calls a0 a1 false _ HB.out).mono ?_); rintro e w1 ⟨rfl, ⟨nd, rfl⟩⟩)
    go_ret
    exact ⟨rfl, pw_below_drewN (Below.refl _ _) _⟩
  | true =>
    rw [if_pos rfl] at h0
    by_cases hs : a2.size ≤ 1048576
    · rw [if_pos hs] at h0
      have hcon := fun W => Go.Proofs.Any.strings_Trim_laid lay_trim (by kernel_rfl) a2 ⟨#[76, 82, 84, 66]⟩ W (by omega) (by decide) (Go.Proofs.ascii_of_all (by decide))
      change ∀ W, Calls Tryz.prog 35 #[.string a2, .string ⟨#[76, 82, 84, 66]⟩] W (fun e w' => e = .returned (.string ⟨(Go.Lib.trimS a2.data.toList [76, 82, 84, 66]).toArray⟩) ∧ Below W.heap.size W w') at hcon
      have hc1 := fun W => Go.Proofs.Any.strings_Count_one lay_count a2 76 W
      have hc2 := fun W => Go.Proofs.Any.strings_Count_one lay_count a2 82 W
      change ∀ W, Calls Tryz.prog 67 #[.string a2, .string ⟨#[76]⟩] W (fun e w' => e = .returned (.int .i64 (Go.Lib.countByte a2.data.toList 76)) ∧ w' = W) at hc1
      change ∀ W, Calls Tryz.prog 67 #[.string a2, .string ⟨#[82]⟩] W (fun e w' => e = .returned (.int .i64 (Go.Lib.countByte a2.data.toList 82)) ∧ w' = W) at hc2
      generalize Go.Lib.trimS a2.data.toList [76, 82, 84, 66] = t at hcon h0
      have hn1 : Go.Lib.countByte a2.data.toList 76 ≤ 1048576 := Nat.le_trans List.count_le_length (by simpa using hs)
      have hn2 : Go.Lib.countByte a2.data.toList 82 ≤ 1048576 := Nat.le_trans List.count_le_length (by simpa using hs)
      unfold lrcount at h0
      generalize Go.Lib.countByte a2.data.toList 76 = n1 at hc1 hn1 h0
      generalize Go.Lib.countByte a2.data.toList 82 = n2 at hc2 hn2 h0
      have e1 : wrap64 ((n1 : Int) + (n2 : Int)) = (n1 : Int) + (n2 : Int) := by unfold wrap64; omega
      have e2 : wrap64 ((a2.size : Int) - ((n1 : Int) + (n2 : Int))) = (a2.size : Int) - ((n1 : Int) + (n2 : Int)) := by unfold wrap64; omega
      rw [show ((n1 + n2 : Nat) : Int) = (n1 : Int) + (n2 : Int) from Int.natCast_add _ _] at h0
      cases t with
      | cons c t =>
        rw [if_neg (by simp)] at h0
        injection h0 with e3
        subst e3
        obtain ⟨S, hS⟩ : ∃ S : ByteArray, (⟨(c :: t).toArray⟩ : ByteArray) = S := ⟨_, rfl⟩
        rw [hS] at hcon
        have z1 : S.toList.isEmpty = false := by rw [← hS, ByteArray.toList_eq]; rfl
        clear hS hn1 hn2 hc1 hc2 hs
        go_enter Tryz.func48, Tryz.ntmps48
        go_wp2_with (first | (go_at_call 47; (with_reducible refine (impl_isSheet.calls a0 a1 true _ HB.out).mono ?_); rintro e w1 ⟨rfl, ⟨nd, rfl⟩⟩) | (go_at_call 35; (with_reducible refine (hcon _).mono ?_); rintro e w2 ⟨rfl, hb2⟩; have HB2 := Aside0.mk hb2; clear hb2))
        go_ret
        exact ⟨rfl, (pw_below_drewN (Below.refl _ _) nd).trans (HB2.out.mono (below_size (pw_below_drewN (Below.refl w.heap.size w) nd)))⟩
      | nil =>
        rw [if_pos rfl] at h0
        obtain ⟨x, hx, h1⟩ := Option.bind_eq_some_iff.1 h0
        clear h0
        have HX := Aside0.mk hx
        have hcon2 : ∀ W, Calls Tryz.prog 35 #[.string a2, .string ⟨#[76, 82, 84, 66]⟩] W (fun e w' => e = .returned (.string ⟨#[]⟩) ∧ Below W.heap.size W w') := hcon
        clear hx hcon hn1 hn2 hs
        by_cases hc : (n1 : Int) + (n2 : Int) = x
        · rw [if_pos hc] at h1
          obtain ⟨y, hy, h2⟩ := Option.bind_eq_some_iff.1 h1
          clear h1
          injection h2 with e3
          subst e3
          have HY := Aside0.mk hy
          clear hy
          have d1 : (((n1 : Int) + (n2 : Int)) == x) = true := by rw [hc]; exact beq_self_eq_true _
          have d2 : ∀ q : Int, (q == y) = decide (q = y) := fun q => rfl
          have HC := Aside0.mk hc
          clear hc
          go_enter Tryz.func48, Tryz.ntmps48
          go_wp2_with (first | (go_at_call 47; (with_reducible refine (impl_isSheet.calls a0 a1 true _ HB.out).mono ?_); rintro e w1 ⟨rfl, ⟨nd, rfl⟩⟩) | (go_at_call 35; (with_reducible refine (hcon2 _).mono ?_); rintro e w2 ⟨rfl, hb2⟩; have HB2 := Aside0.mk hb2; clear hb2) | (go_at_call 67; (with_reducible refine (hc1 _).mono ?_); rintro e w3 ⟨rfl, rfl⟩) | (go_at_call 67; (with_reducible refine (hc2 _).mono ?_); rintro e w3 ⟨rfl, rfl⟩) | (go_at_call 68; (with_reducible refine (impl_halvings.calls k a0 x _ HX.out).mono ?_); rintro e w4 ⟨rfl, ⟨nd4, rfl⟩⟩) | (go_at_call 68; (with_reducible refine (impl_halvings.calls k a1 y _ HY.out).mono ?_); rintro e w5 ⟨rfl, ⟨nd5, rfl⟩⟩))
          go_ret
          have hb3 : Below w.heap.size w w3 := (pw_below_drewN (Below.refl _ _) nd).trans (HB2.out.mono (below_size (pw_below_drewN (Below.refl w.heap.size w) nd)))
          exact ⟨rfl, pw_below_drewN hb3 _⟩
        · rw [if_neg hc] at h1
          injection h1 with e3
          subst e3
          have d1 : (((n1 : Int) + (n2 : Int)) == x) = false := beq_false_of_ne hc
          have HC := Aside0.mk hc
          clear hc
          go_enter Tryz.func48, Tryz.ntmps48
          go_wp2_with (first | (go_at_call 47; (with_reducible refine (impl_isSheet.calls a0 a1 true _ HB.out).mono ?_); rintro e w1 ⟨rfl, ⟨nd, rfl⟩⟩) | (go_at_call 35; (with_reducible refine (hcon2 _).mono ?_); rintro e w2 ⟨rfl, hb2⟩; have HB2 := Aside0.mk hb2; clear hb2) | (go_at_call 67; (with_reducible refine (hc1 _).mono ?_); rintro e w3 ⟨rfl, rfl⟩) | (go_at_call 67; (with_reducible refine (hc2 _).mono ?_); rintro e w3 ⟨rfl, rfl⟩) | (go_at_call 68; (with_reducible refine (impl_halvings.calls k a0 x _ HX.out).mono ?_); rintro e w4 ⟨rfl, ⟨nd4, rfl⟩⟩))
          go_ret
          have hb3 : Below w.heap.size w w3 := (pw_below_drewN (Below.refl _ _) nd).trans (HB2.out.mono (below_size (pw_below_drewN (Below.refl w.heap.size w) nd)))
          exact ⟨rfl, pw_below_drewN hb3 _⟩
    · rw [if_neg hs] at h0; cases h0

/-! ### impl_checkScheme: function 31 -/
def impl_checkScheme.f (k : Nat) (a0 : Int) (a1 : Int) (a2 : ByteArray) : Option (Int) := (impl_isSheet.f a0 a1).bind fun t113 => (if t113 = true then ((impl_IsScheme.f k a0 a1 a2).bind fun t114 => (if t114 = true then (some 0) else (some 2))) else (some 1))
theorem impl_checkScheme.mono : ∀ a0 a1 a2 k, LeO (impl_checkScheme.f k a0 a1 a2) (impl_checkScheme.f (k + 1) a0 a1 a2) := by
  intro a0 a1 a2 k
  unfold impl_checkScheme.f
  repeat' first
      | (with_reducible exact impl_IsScheme.mono _ _ _ _)
      | (with_reducible exact LeO.refl _)
      | (with_reducible exact LeO.none _)
      | (with_reducible refine LeO.ite ?_ ?_)
      | (with_reducible refine LeO.bind ?_ (fun _ => ?_))
      | exact impl_IsScheme.mono _ _ _ _
      | exact LeO.none _
      | refine LeO.ite ?_ ?_
      | refine LeO.bind ?_ (fun _ => ?_)
set_option maxHeartbeats 8000000 in
set_option maxRecDepth 100000 in
theorem impl_checkScheme.calls (k : Nat) (a0 : Int) (a1 : Int) (a2 : ByteArray) (r : Int) (w : World) (h : impl_checkScheme.f k a0 a1 a2 = some r) :
    Calls Tryz.prog 31 #[.int .i64 a0, .int .i64 a1, .string a2] w fun e w' => e = .returned (.int .i64 r) ∧ Below w.heap.size w w' := by
  have HB := Aside0.mk (Below.refl w.heap.size w)
  have H : ((impl_isSheet.f a0 a1).bind fun t113 => (if t113 = true then ((impl_IsScheme.f k a0 a1 a2).bind fun t114 => (if t114 = true then (some 0) else (some 2))) else (some 1))) = some r := h
  clear h
  replace H := Option.bind_eq_some_iff.mp H
  obtain ⟨t113, A40, H⟩ := H
  replace H : (if t113 = true then ((impl_IsScheme.f k a0 a1 a2).bind fun t114 => (if t114 = true then (some 0) else (some 2))) else (some 1)) = some r := H
  have A4 := Aside0.mk A40
  clear A40
  by_cases c5 : t113 = true
  · subst c5
    have H1 : ((impl_IsScheme.f k a0 a1 a2).bind fun t114 => (if t114 = true then (some 0) else (some 2))) = some r := by rw [if_pos rfl] at H; exact H
    clear H
    have H := H1
    clear H1
    replace H := Option.bind_eq_some_iff.mp H
    obtain ⟨t114, A60, H⟩ := H
    replace H : (if t114 = true then (some 0) else (some 2)) = some r := H
    have A6 := Aside0.mk A60
    clear A60
    by_cases c7 : t114 = true
    · subst c7
      have H1 : (some 0) = some r := by rw [if_pos rfl] at H; exact H
      clear H
      have H := H1
      clear H1
      obtain rfl := Option.some.inj H
      go_enter Tryz.func31, Tryz.ntmps31
      go_wp2_with (first | ((with_reducible refine gate_callee (f := 47) rfl ?_); refine goesL_ (some 10) rfl rfl Tryz.func47 (by kernel_rfl) rfl #[.int .i64 a0, .int .i64 a1] rfl (by (try simp only [List.map_toArray, List.map_cons, List.map_nil]); first | done | rfl | (simp only [List.length_drop, List.length_take]; rfl)) ?_; (with_reducible refine (impl_isSheet.calls a0 a1 true _ A4.out).mono ?_); rintro e w' ⟨rfl, ⟨nd, rfl⟩⟩; refine ⟨_, rfl, ?_⟩) | ((with_reducible refine gate_callee (f := 48) rfl ?_); refine goesL_ (some 16) rfl rfl Tryz.func48 (by kernel_rfl) rfl #[.int .i64 a0, .int .i64 a1, .string a2] rfl (by (try simp only [List.map_toArray, List.map_cons, List.map_nil]); first | done | rfl | (simp only [List.length_drop, List.length_take]; rfl)) ?_; (with_reducible refine (impl_IsScheme.calls k a0 a1 a2 true _ A6.out).mono ?_); rintro e w8 ⟨rfl, hb⟩; refine ⟨_, rfl, ?_⟩; have n0_ := Aside0.mk (below_step (by repeat (first | (with_reducible first | exact HB.out | apply below_alloc | apply pw_below_drewN | apply below_drew1) | exact HB.out)) hb); clear HB; have HB := n0_; clear n0_; (try clear hb); (try clear hb2); (try clear hk); (try clear hi)))
      go_ret
      exact ⟨by first | rfl | (simp only [Go.IntWalk.i64_left]; first | done | rfl) | (simp [errW_none, errW_some] <;> rfl) | (simp [*, errW_none, errW_some] <;> rfl), by repeat (first | (with_reducible first | exact HB.out | apply below_alloc | apply pw_below_drewN | apply below_drew1) | exact HB.out)⟩
    · replace c7 := Bool.eq_false_iff.mpr c7
      subst c7
      have H1 : (some 2) = some r := by rw [if_neg (show ¬ (false = true) by decide)] at H; exact H
      clear H
      have H := H1
      clear H1
      obtain rfl := Option.some.inj H
      go_enter Tryz.func31, Tryz.ntmps31
      go_wp2_with (first | ((with_reducible refine gate_callee (f := 47) rfl ?_); refine goesL_ (some 10) rfl rfl Tryz.func47 (by kernel_rfl) rfl #[.int .i64 a0, .int .i64 a1] rfl (by (try simp only [List.map_toArray, List.map_cons, List.map_nil]); first | done | rfl | (simp only [List.length_drop, List.length_take]; rfl)) ?_; (with_reducible refine (impl_isSheet.calls a0 a1 true _ A4.out).mono ?_); rintro e w' ⟨rfl, ⟨nd, rfl⟩⟩; refine ⟨_, rfl, ?_⟩) | ((with_reducible refine gate_callee (f := 48) rfl ?_); refine goesL_ (some 16) rfl rfl Tryz.func48 (by kernel_rfl) rfl #[.int .i64 a0, .int .i64 a1, .string a2] rfl (by (try simp only [List.map_toArray, List.map_cons, List.map_nil]); first | done | rfl | (simp only [List.length_drop, List.length_take]; rfl)) ?_; (with_reducible refine (impl_IsScheme.calls k a0 a1 a2 false _ A6.out).mono ?_); rintro e w9 ⟨rfl, hb⟩; refine ⟨_, rfl, ?_⟩; have n0_ := Aside0.mk (below_step (by repeat (first | (with_reducible first | exact HB.out | apply below_alloc | apply pw_below_drewN | apply below_drew1) | exact HB.out)) hb); clear HB; have HB := n0_; clear n0_; (try clear hb); (try clear hb2); (try clear hk); (try clear hi)))
      go_ret
      exact ⟨by first | rfl | (simp only [Go.IntWalk.i64_left]; first | done | rfl) | (simp [errW_none, errW_some] <;> rfl) | (simp [*, errW_none, errW_some] <;> rfl), by repeat (first | (with_reducible first | exact HB.out | apply below_alloc | apply pw_below_drewN | apply below_drew1) | exact HB.out)⟩
  · replace c5 := Bool.eq_false_iff.mpr c5
    subst c5
    have H1 : (some 1) = some r := by rw [if_neg (show ¬ (false = true) by decide)] at H; exact H
    clear H
    have H := H1
    clear H1
    obtain rfl := Option.some.inj H
    go_enter Tryz.func31, Tryz.ntmps31
    go_wp2_with (first | ((with_reducible refine gate_callee (f := 47) rfl ?_); refine goesL_ (some 10) rfl rfl Tryz.func47 (by kernel_rfl) rfl #[.int .i64 a0, .int .i64 a1] rfl (by (try simp only [List.map_toArray, List.map_cons, List.map_nil]); first | done | rfl | (simp only [List.length_drop, List.length_take]; rfl)) ?_; (with_reducible refine (impl_isSheet.calls a0 a1 false _ A4.out).mono ?_); rintro e w' ⟨rfl, ⟨nd, rfl⟩⟩; refine ⟨_, rfl, ?_⟩))
    go_ret
    exact ⟨by first | rfl | (simp only [Go.IntWalk.i64_left]; first | done | rfl) | (simp [errW_none, errW_some] <;> rfl) | (simp [*, errW_none, errW_some] <;> rfl), by repeat (first | (with_reducible first | exact HB.out | apply below_alloc | apply pw_below_drewN | apply below_drew1) | exact HB.out)⟩

/-! ### impl_MirrorScheme: function 16 -/
def impl_MirrorScheme.f (k : Nat) (a0 : Int) (a1 : Int) (a2 : ByteArray) : Option (ByteArray × Int) := (impl_checkScheme.f k a0 a1 a2).bind fun t115 => (if t115 = 0 then ((impl_mirrored.f a2).bind fun t116 => (some (t116, 0))) else (some ((⟨#[]⟩ : ByteArray), t115)))
theorem impl_MirrorScheme.mono : ∀ a0 a1 a2 k, LeO (impl_MirrorScheme.f k a0 a1 a2) (impl_MirrorScheme.f (k + 1) a0 a1 a2) := by
  intro a0 a1 a2 k
  unfold impl_MirrorScheme.f
  repeat' first
      | (with_reducible exact impl_checkScheme.mono _ _ _ _)
      | (with_reducible exact LeO.refl _)
      | (with_reducible exact LeO.none _)
      | (with_reducible refine LeO.ite ?_ ?_)
      | (with_reducible refine LeO.bind ?_ (fun _ => ?_))
      | exact impl_checkScheme.mono _ _ _ _
      | exact LeO.none _
      | refine LeO.ite ?_ ?_
      | refine LeO.bind ?_ (fun _ => ?_)
set_option maxHeartbeats 8000000 in
set_option maxRecDepth 100000 in
theorem impl_MirrorScheme.calls (k : Nat) (a0 : Int) (a1 : Int) (a2 : ByteArray) (r1 : ByteArray) (r2 : Int) (w : World) (h : impl_MirrorScheme.f k a0 a1 a2 = some (r1, r2)) :
    Calls Tryz.prog 16 #[.int .i64 a0, .int .i64 a1, .string a2] w fun e w' => e = .returned (.tuple #[.string r1, .int .i64 r2]) ∧ Below w.heap.size w w' := by
  have HB := Aside0.mk (Below.refl w.heap.size w)
  have H : ((impl_checkScheme.f k a0 a1 a2).bind fun t115 => (if t115 = 0 then ((impl_mirrored.f a2).bind fun t116 => (some (t116, 0))) else (some ((⟨#[]⟩ : ByteArray), t115)))) = some (r1, r2) := h
  clear h
  replace H := Option.bind_eq_some_iff.mp H
  obtain ⟨t115, A40, H⟩ := H
  replace H : (if t115 = 0 then ((impl_mirrored.f a2).bind fun t116 => (some (t116, 0))) else (some ((⟨#[]⟩ : ByteArray), t115))) = some (r1, r2) := H
  have A4 := Aside0.mk A40
  clear A40
  by_cases c5 : t115 = 0
  · rw [if_pos c5] at H
    have c5b0 : (t115 == 0) = true := beq_iff_eq.mpr c5
    have c5b1 : (t115 != 0) = false := bne_eq_false_iff_eq.mpr c5
    clear c5
    replace H := Option.bind_eq_some_iff.mp H
    obtain ⟨t116, A60, H⟩ := H
    replace H : (some (t116, 0)) = some (r1, r2) := H
    have A6 := Aside0.mk A60
    clear A60
    simp only [Option.some.injEq, Prod.mk.injEq] at H
    obtain ⟨rfl, rfl⟩ := H
    go_enter Tryz.func16, Tryz.ntmps16
    go_wp2_with (first | ((with_reducible refine gate_callee (f := 31) rfl ?_); refine goesL_ (some 12) rfl rfl Tryz.func31 (by kernel_rfl) rfl #[.int .i64 a0, .int .i64 a1, .string a2] rfl (by (try simp only [List.map_toArray, List.map_cons, List.map_nil]); first | done | rfl | (simp only [List.length_drop, List.length_take]; rfl)) ?_; (with_reducible refine (impl_checkScheme.calls k a0 a1 a2 t115 _ A4.out).mono ?_); rintro e w7 ⟨rfl, hb⟩; refine ⟨_, rfl, ?_⟩; have n0_ := Aside0.mk (below_step (by repeat (first | (with_reducible first | exact HB.out | apply below_alloc | apply pw_below_drewN | apply below_drew1) | exact HB.out)) hb); clear HB; have HB := n0_; clear n0_; (try clear hb); (try clear hb2); (try clear hk); (try clear hi)) | ((with_reducible refine gate_callee (f := 22) rfl ?_); refine goesL_ (some 17) rfl rfl Tryz.func22 (by kernel_rfl) rfl #[.string a2] rfl (by (try simp only [List.map_toArray, List.map_cons, List.map_nil]); first | done | rfl | (simp only [List.length_drop, List.length_take]; rfl)) ?_; (with_reducible refine (impl_mirrored.calls a2 t116 _ A6.out).mono ?_); rintro e w8 ⟨rfl, hb⟩; refine ⟨_, rfl, ?_⟩; have n0_ := Aside0.mk (below_step (by repeat (first | (with_reducible first | exact HB.out | apply below_alloc | apply pw_below_drewN | apply below_drew1) | exact HB.out)) hb); clear HB; have HB := n0_; clear n0_; (try clear hb); (try clear hb2); (try clear hk); (try clear hi)))
    go_ret2
    exact ⟨by first | rfl | (simp only [Go.IntWalk.i64_left]; first | done | rfl) | (simp [errW_none, errW_some] <;> rfl) | (simp [*, errW_none, errW_some] <;> rfl), by repeat (first | (with_reducible first | exact HB.out | apply below_alloc | apply pw_below_drewN | apply below_drew1) | exact HB.out)⟩
  · rw [if_neg c5] at H
    have c5b0 : (t115 == 0) = false := beq_eq_false_iff_ne.mpr c5
    have c5b1 : (t115 != 0) = true := bne_iff_ne.mpr c5
    simp only [Option.some.injEq, Prod.mk.injEq] at H
    obtain ⟨rfl, rfl⟩ := H
    go_enter Tryz.func16, Tryz.ntmps16
    go_wp2_with (first | ((with_reducible refine gate_callee (f := 31) rfl ?_); refine goesL_ (some 12) rfl rfl Tryz.func31 (by kernel_rfl) rfl #[.int .i64 a0, .int .i64 a1, .string a2] rfl (by (try simp only [List.map_toArray, List.map_cons, List.map_nil]); first | done | rfl | (simp only [List.length_drop, List.length_take]; rfl)) ?_; (with_reducible refine (impl_checkScheme.calls k a0 a1 a2 t115 _ A4.out).mono ?_); rintro e w9 ⟨rfl, hb⟩; refine ⟨_, rfl, ?_⟩; have n0_ := Aside0.mk (below_step (by repeat (first | (with_reducible first | exact HB.out | apply below_alloc | apply pw_below_drewN | apply below_drew1) | exact HB.out)) hb); clear HB; have HB := n0_; clear n0_; (try clear hb); (try clear hb2); (try clear hk); (try clear hi)))
    go_ret2
    exact ⟨by first | rfl | (simp only [Go.IntWalk.i64_left]; first | done | rfl) | (simp [errW_none, errW_some] <;> rfl) | (simp [*, errW_none, errW_some] <;> rfl), by repeat (first | (with_reducible first | exact HB.out | apply below_alloc | apply pw_below_drewN | apply below_drew1) | exact HB.out)⟩

/-! ### laws_FnExactMirrorScheme: function 4 -/
def laws_FnExactMirrorScheme.f (k : Nat) (a0 : Int) (a1 : Int) (a2 : ByteArray) : Option (Bool) := if (a2.size : Int) > 1048576 then (some true) else ((spec_MirrorScheme.f k a0 a1 a2).bind fun bt117 => ((impl_MirrorScheme.f k a0 a1 a2).bind fun bt119 => (if bt119.1.toList = bt117.1.toList then (if bt119.2 = bt117.2 then (some true) else (none)) else (none))))
theorem laws_FnExactMirrorScheme.mono : ∀ a0 a1 a2 k, LeO (laws_FnExactMirrorScheme.f k a0 a1 a2) (laws_FnExactMirrorScheme.f (k + 1) a0 a1 a2) := by
  intro a0 a1 a2 k
  unfold laws_FnExactMirrorScheme.f
  repeat' first
      | (with_reducible exact impl_MirrorScheme.mono _ _ _ _)
      | (with_reducible exact spec_MirrorScheme.mono _ _ _ _)
      | (with_reducible exact LeO.refl _)
      | (with_reducible exact LeO.none _)
      | (with_reducible refine LeO.ite ?_ ?_)
      | (with_reducible refine LeO.bind ?_ (fun _ => ?_))
      | exact impl_MirrorScheme.mono _ _ _ _
      | exact spec_MirrorScheme.mono _ _ _ _
      | exact LeO.none _
      | refine LeO.ite ?_ ?_
      | refine LeO.bind ?_ (fun _ => ?_)
set_option maxHeartbeats 8000000 in
set_option maxRecDepth 100000 in
theorem laws_FnExactMirrorScheme.calls (k : Nat) (a0 : Int) (a1 : Int) (a2 : ByteArray) (r : Bool) (w : World) (h : laws_FnExactMirrorScheme.f k a0 a1 a2 = some r) :
    Calls Tryz.prog 4 #[.int .i64 a0, .int .i64 a1, .string a2] w fun e w' => e = .returned (.bool r) ∧ Below w.heap.size w w' := by
  have HB := Aside0.mk (Below.refl w.heap.size w)
  have H : (if (a2.size : Int) > 1048576 then (some true) else ((spec_MirrorScheme.f k a0 a1 a2).bind fun bt117 => ((impl_MirrorScheme.f k a0 a1 a2).bind fun bt119 => (if bt119.1.toList = bt117.1.toList then (if bt119.2 = bt117.2 then (some true) else (none)) else (none))))) = some r := h
  clear h
  by_cases c4 : (a2.size : Int) > 1048576
  · rw [if_pos c4] at H
    have c4b0 : decide (1048576 < (a2.size : Int)) = true := decide_eq_true c4
    have c4b1 : decide (1048576 < a2.size) = true := decide_eq_true (by omega)
    clear c4
    obtain rfl := Option.some.inj H
    go_enter Tryz.func4, Tryz.ntmps4
    go_wp2
    go_ret
    exact ⟨by first | rfl | (simp only [Go.IntWalk.i64_left]; first | done | rfl) | (simp [errW_none, errW_some] <;> rfl) | (simp [*, errW_none, errW_some] <;> rfl), by repeat (first | (with_reducible first | exact HB.out | apply below_alloc | apply pw_below_drewN | apply below_drew1) | exact HB.out)⟩
  · rw [if_neg c4] at H
    have c4b0 : decide (1048576 < (a2.size : Int)) = false := decide_eq_false c4
    have c4b1 : decide (1048576 < a2.size) = false := decide_eq_false (by omega)
    clear c4
    replace H := Option.bind_eq_some_iff.mp H
    obtain ⟨⟨t117, t118⟩, A50, H⟩ := H
    replace H : ((impl_MirrorScheme.f k a0 a1 a2).bind fun bt119 => (if bt119.1.toList = t117.toList then (if bt119.2 = t118 then (some true) else (none)) else (none))) = some r := H
    have A5 := Aside0.mk A50
    clear A50
    replace H := Option.bind_eq_some_iff.mp H
    obtain ⟨⟨t119, t120⟩, A60, H⟩ := H
    replace H : (if t119.toList = t117.toList then (if t120 = t118 then (some true) else (none)) else (none)) = some r := H
    have A6 := Aside0.mk A60
    clear A60
    by_cases c7 : t119.toList = t117.toList
    · rw [if_pos c7] at H
      have c7b0 : (t119.toList == t117.toList) = true := beq_iff_eq.mpr c7
      have c7b1 : (t119.toList != t117.toList) = false := bne_eq_false_iff_eq.mpr c7
      clear c7
      by_cases c8 : t120 = t118
      · rw [if_pos c8] at H
        have c8b0 : (t120 == t118) = true := beq_iff_eq.mpr c8
        have c8b1 : (t120 != t118) = false := bne_eq_false_iff_eq.mpr c8
        clear c8
        obtain rfl := Option.some.inj H
        go_enter Tryz.func4, Tryz.ntmps4
        go_wp2_with (first | ((with_reducible refine gate_callee (f := 15) rfl ?_); refine goesL_ (some 18) rfl rfl Tryz.func15 (by kernel_rfl) rfl #[.int .i64 a0, .int .i64 a1, .string a2] rfl (by (try simp only [List.map_toArray, List.map_cons, List.map_nil]); first | done | rfl | (simp only [List.length_drop, List.length_take]; rfl)) ?_; (with_reducible refine (spec_MirrorScheme.calls k a0 a1 a2 t117 t118 _ A5.out).mono ?_); rintro e w9 ⟨rfl, hb⟩; refine ⟨_, rfl, ?_⟩; have n0_ := Aside0.mk (below_step (by repeat (first | (with_reducible first | exact HB.out | apply below_alloc | apply pw_below_drewN | apply below_drew1) | exact HB.out)) hb); clear HB; have HB := n0_; clear n0_; (try clear hb); (try clear hb2); (try clear hk); (try clear hi)) | ((with_reducible refine gate_callee (f := 16) rfl ?_); refine goesL_ (some 25) rfl rfl Tryz.func16 (by kernel_rfl) rfl #[.int .i64 a0, .int .i64 a1, .string a2] rfl (by (try simp only [List.map_toArray, List.map_cons, List.map_nil]); first | done | rfl | (simp only [List.length_drop, List.length_take]; rfl)) ?_; (with_reducible refine (impl_MirrorScheme.calls k a0 a1 a2 t119 t120 _ A6.out).mono ?_); rintro e w10 ⟨rfl, hb⟩; refine ⟨_, rfl, ?_⟩; have n0_ := Aside0.mk (below_step (by repeat (first | (with_reducible first | exact HB.out | apply below_alloc | apply pw_below_drewN | apply below_drew1) | exact HB.out)) hb); clear HB; have HB := n0_; clear n0_; (try clear hb); (try clear hb2); (try clear hk); (try clear hi)))
        go_ret
        exact ⟨by first | rfl | (simp only [Go.IntWalk.i64_left]; first | done | rfl) | (simp [errW_none, errW_some] <;> rfl) | (simp [*, errW_none, errW_some] <;> rfl), by repeat (first | (with_reducible first | exact HB.out | apply below_alloc | apply pw_below_drewN | apply below_drew1) | exact HB.out)⟩
      · rw [if_neg c8] at H
        exact absurd H (by simp)
    · rw [if_neg c7] at H
      exact absurd H (by simp)

/-- THE ONE PURE STATEMENT of laws_FnExactMirrorScheme: yours. -/
def laws_FnExactMirrorScheme.Pure : Prop := ∀ (a0 : Int) (a1 : Int) (a2 : ByteArray), (Lit.int .i64 a0).wf = true → (Lit.int .i64 a1).wf = true → a2.size ≤ 140737488351232 → ∃ k, laws_FnExactMirrorScheme.f k a0 a1 a2 = some true
theorem laws_FnExactMirrorScheme.walk (P : laws_FnExactMirrorScheme.Pure) (a0 : Int) (a1 : Int) (a2 : ByteArray) (w : World) (w0 : (Lit.int .i64 a0).wf = true) (w1 : (Lit.int .i64 a1).wf = true) (w2 : a2.size ≤ 140737488351232) :
    Calls Tryz.prog 4 #[.int .i64 a0, .int .i64 a1, .string a2] w fun e w' => e = .returned (.bool true) ∧ Below w.heap.size w w' := by
  obtain ⟨k, h⟩ := P a0 a1 a2 w0 w1 w2
  refine (laws_FnExactMirrorScheme.calls k a0 a1 a2 true w h).mono ?_
  rintro e w' ⟨rfl, hd⟩
  exact ⟨rfl, hd⟩

end Go.Proofs.YtdpmpoakjhhaaaaGreatDoor.QFnExactMirrorScheme
