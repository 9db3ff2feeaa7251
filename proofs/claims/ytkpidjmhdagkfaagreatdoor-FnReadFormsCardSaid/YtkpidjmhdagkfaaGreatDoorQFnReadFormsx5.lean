-- Written by own_print.py of this session's repo over the kit's print (its output, turned at some places).
import Derived.Test.YtkpidjmhdagkfaaGreatDoorQFnReadFormsx0
import Derived.Test.YtkpidjmhdagkfaaGreatDoorQFnReadFormsx4
namespace Go.Proofs.YtkpidjmhdagkfaaGreatDoor.QFnReadForms
open Go.RowKit Go.Proofs.YtkpidjmhdagkfaaGreatDoorW.PrintWords Go.Proofs.YtkpidjmhdagkfaaGreatDoorW.PrintLast Go.Proofs.YtkpidjmhdagkfaaGreatDoorW.PrintMore
attribute [local go_sem] ik iq iR iT gD gF il iw
set_option maxHeartbeats 8000000
set_option maxRecDepth 100000
set_option linter.unusedVariables false
set_option linter.unusedSimpArgs false
def bQ.l0 : Nat → Int → Int → Option (Int)
 | 0, _, _ => none
 | k + 1, x0, x3 => if x0 > 1 then (bQ.l0 k (wrap64 (Int.tdiv x0 2)) (wrap64 (x3 + 1))) else (some x3)
def bQ.f (k : Nat) (a0 : Int) : Option (Int) := bQ.l0 k a0 0
theorem bQ.di : ∀ k, (∀ y0 y1, LeO (bQ.l0 k y0 y1) (bQ.l0 (k + 1) y0 y1))
 | 0 => fun _ _ r h => by simp [bQ.l0] at h
 | k + 1 => by
  have ih0 := bQ.di k
  ·intro y0 y1
   unfold bQ.l0
   repeat' first | (with_reducible first | exact ih0 .. | exact LeO.refl .. | exact LeO.none .. | refine LeO.ite ?_ ?_ | refine LeO.bind ?_ (fun _ => ?_))
theorem bQ.mono : ∀ a0 k, LeO (bQ.f k a0) (bQ.f (k + 1) a0) := by
 intro a0 k
 have ih0 := bQ.di k
 unfold bQ.f
 repeat' first | (with_reducible first | exact ih0 .. | exact LeO.refl .. | exact LeO.none .. | refine LeO.ite ?_ ?_ | refine LeO.bind ?_ (fun _ => ?_))
theorem bQ.calls (k : Nat) (a0 : Int) (r : Int) (w : World) (h : bQ.f k a0 = some r) :
  Calls Tryz.prog 74 #[.int .i64 a0] w fun e w' => e = .returned (.int .i64 r) ∧ eY w w' := by
 have H : (bQ.l0 k a0 0) = some r := h
 clear h
 have H' := a_ H
 clear H
 go_enter Tryz.func74, Tryz.ntmps74
 go_wp2
 go_loopg [0, 3] k (fun kq v0 v3 w' => ∃ (A1 : Int) (A2 : Int), v0 = .int .i64 A1 ∧ v3 = .int .i64 A2 ∧ ah (bQ.l0 kq A1 A2 = some r) ∧ ah (kq ≤ k) ∧ eY w w')
 case atStart => exact ⟨(a0), (0), bZ, bZ, H', ⟨Nat.le_refl _⟩, eQ⟩
 case round =>
  clear H'
  obtain ⟨A1, A2, rfl, rfl, HA, HK1, ⟨m1, rfl⟩⟩ := hrel
  cases gk with
  | zero => exact absurd HA.out (by simp [bQ.l0])
  | succ k1 =>
   have H := HA.out
   clear HA
   simp only [bQ.l0] at H
   by_cases c2 : A1 > 1
   ·rw [if_pos c2] at H
    have A3 := decide_eq_true c2
    clear c2
    have H' := a_ H
    clear H
    go_wp2
    go_roundg k1
    case measure => have := HK1.out; omega
    case rel => exact ⟨(wrap64 (Int.tdiv A1 2)), (wrap64 (A2 + 1)), bZ, bZ, H', ⟨jR⟩, eQ⟩
   rw [if_neg c2] at H
   have A3 := decide_eq_false c2
   clear c2
   obtain rfl := Option.some.inj H
   go_wp2
   go_ret
   exact ⟨fT, eQ⟩
def ut : Go.Shelf.Ren := ⟨fun | 160 => 92 | 232 => 105 | 231 => 104 | 227 => 106 | 234 => 108 | 233 => 107 | 236 => 110 | 235 => 109 | 228 => 127 | 271 => 130 | 151 => 129 | 197 => 128 | 120 => 140 | 152 => 139 | 260 => 138 | 137 => 146 | 119 => 147 | 224 => 143 | 225 => 142 | 217 => 141 | 266 => 148 | n => n, fun | 9 => 9 | 4 => 4 | 3 => 3 | 5 => 5 | 117 => 119 | 116 => 118 | 0 => 0 | 124 => 122 | 21 => 21 | 105 => 139 | 46 => 115 | 119 => 153 | 139 => 156 | 138 => 155 | n => n, fun | 3 => 1 | 4 => 2 | n => n⟩
theorem yN : Go.Proofs.Lays.n160 Tryz.prog ut := {
 mixed := by kernel_rfl
 f119 := Tryz.func147.trans (congrArg some (by kernel_rfl))
 f120 := Tryz.func140.trans (congrArg some (by kernel_rfl))
 f137 := Tryz.func146.trans (congrArg some (by kernel_rfl))
 f151 := Tryz.func129.trans (congrArg some (by kernel_rfl))
 f152 := Tryz.func139.trans (congrArg some (by kernel_rfl))
 f160 := Tryz.func92.trans (congrArg some (by kernel_rfl))
 f197 := Tryz.func128.trans (congrArg some (by kernel_rfl))
 f217 := Tryz.func141.trans (congrArg some (by kernel_rfl))
 f224 := Tryz.func143.trans (congrArg some (by kernel_rfl))
 f225 := Tryz.func142.trans (congrArg some (by kernel_rfl))
 f227 := Tryz.func106.trans (congrArg some (by kernel_rfl))
 f228 := Tryz.func127.trans (congrArg some (by kernel_rfl))
 f231 := Tryz.func104.trans (congrArg some (by kernel_rfl))
 f232 := Tryz.func105.trans (congrArg some (by kernel_rfl))
 f233 := Tryz.func107.trans (congrArg some (by kernel_rfl))
 f234 := Tryz.func108.trans (congrArg some (by kernel_rfl))
 f235 := Tryz.func109.trans (congrArg some (by kernel_rfl))
 f236 := Tryz.func110.trans (congrArg some (by kernel_rfl))
 f260 := Tryz.func138.trans (congrArg some (by kernel_rfl))
 f266 := Tryz.func148.trans (congrArg some (by kernel_rfl))
 f271 := Tryz.func130.trans (congrArg some (by kernel_rfl))
 t0 := Tryz.underlying0
 a0 := Tryz.isAgg0
 z0 := Tryz.sizeOf0
 v0 := Tryz.zeroValue0
 t3 := Tryz.underlying3
 a3 := Tryz.isAgg3
 z3 := Tryz.sizeOf3
 v3 := Tryz.zeroValue3
 t4 := Tryz.underlying4
 a4 := Tryz.isAgg4
 z4 := Tryz.sizeOf4
 v4 := Tryz.zeroValue4
 t5 := Tryz.underlying5
 a5 := Tryz.isAgg5
 z5 := Tryz.sizeOf5
 v5 := Tryz.zeroValue5
 t9 := Tryz.underlying9
 a9 := Tryz.isAgg9
 z9 := Tryz.sizeOf9
 v9 := Tryz.zeroValue9
 t21 := Tryz.underlying21
 a21 := Tryz.isAgg21
 z21 := Tryz.sizeOf21
 v21 := Tryz.zeroValue21
 t46 := Tryz.underlying115
 a46 := Tryz.isAgg115
 z46 := Tryz.sizeOf115
 v46 := Tryz.zeroValue115
 t105 := Tryz.underlying139
 a105 := Tryz.isAgg139
 z105 := Tryz.sizeOf139
 v105 := Tryz.zeroValue139
 t116 := Tryz.underlying118
 a116 := Tryz.isAgg118
 z116 := Tryz.sizeOf118
 t117 := Tryz.underlying119
 a117 := Tryz.isAgg119
 z117 := Tryz.sizeOf119
 v117 := Tryz.zeroValue119
 t119 := Tryz.underlying153
 a119 := Tryz.isAgg153
 z119 := Tryz.sizeOf153
 t124 := Tryz.underlying122
 a124 := Tryz.isAgg122
 z124 := Tryz.sizeOf122
 v124 := Tryz.zeroValue122
 t138 := Tryz.underlying155
 a138 := Tryz.isAgg155
 z138 := Tryz.sizeOf155
 v138 := Tryz.zeroValue155
 t139 := Tryz.underlying156
 a139 := Tryz.isAgg156
 z139 := Tryz.sizeOf156
 v139 := Tryz.zeroValue156
 g3 := by kernel_rfl
 g4 := by kernel_rfl }
def rX : Go.Shelf.Ren := ⟨fun | 138 => 93 | 195 => 111 | 218 => 112 | 143 => 113 | 219 => 131 | 217 => 141 | 225 => 142 | 224 => 143 | 267 => 144 | 266 => 148 | 314 => 149 | n => n, fun | 9 => 9 | 3 => 3 | 4 => 4 | 5 => 5 | 0 => 0 | 46 => 115 | 146 => 158 | 51 => 135 | n => n, fun | 1 => 0 | n => n⟩
theorem sW : Go.Proofs.Lays.n138 Tryz.prog rX := {
 mixed := by kernel_rfl
 f138 := Tryz.func93.trans (congrArg some (by kernel_rfl))
 f143 := Tryz.func113.trans (congrArg some (by kernel_rfl))
 f195 := Tryz.func111.trans (congrArg some (by kernel_rfl))
 f217 := Tryz.func141.trans (congrArg some (by kernel_rfl))
 f218 := Tryz.func112.trans (congrArg some (by kernel_rfl))
 f219 := Tryz.func131.trans (congrArg some (by kernel_rfl))
 f224 := Tryz.func143.trans (congrArg some (by kernel_rfl))
 f225 := Tryz.func142.trans (congrArg some (by kernel_rfl))
 f266 := Tryz.func148.trans (congrArg some (by kernel_rfl))
 f267 := Tryz.func144.trans (congrArg some (by kernel_rfl))
 f314 := Tryz.func149.trans (congrArg some (by kernel_rfl))
 t0 := Tryz.underlying0
 a0 := Tryz.isAgg0
 z0 := Tryz.sizeOf0
 v0 := Tryz.zeroValue0
 t3 := Tryz.underlying3
 a3 := Tryz.isAgg3
 z3 := Tryz.sizeOf3
 v3 := Tryz.zeroValue3
 t4 := Tryz.underlying4
 a4 := Tryz.isAgg4
 z4 := Tryz.sizeOf4
 v4 := Tryz.zeroValue4
 t5 := Tryz.underlying5
 a5 := Tryz.isAgg5
 z5 := Tryz.sizeOf5
 v5 := Tryz.zeroValue5
 t9 := Tryz.underlying9
 a9 := Tryz.isAgg9
 z9 := Tryz.sizeOf9
 v9 := Tryz.zeroValue9
 t46 := Tryz.underlying115
 a46 := Tryz.isAgg115
 z46 := Tryz.sizeOf115
 v46 := Tryz.zeroValue115
 t51 := Tryz.underlying135
 a51 := Tryz.isAgg135
 z51 := Tryz.sizeOf135
 v51 := Tryz.zeroValue135
 t146 := Tryz.underlying158
 a146 := Tryz.isAgg158
 z146 := Tryz.sizeOf158
 v146 := Tryz.zeroValue158
 g1 := by kernel_rfl }
def kW (s : ByteArray) : Nat := Go.Lib.countByte s.data.toList 76 + Go.Lib.countByte s.data.toList 82
def ek.f (k : Nat) (a0 a1 : Int) (a2 : ByteArray) : Option Bool := (dP.f a0 a1).bind fun b => if b = true then (if a2.size ≤ 1048576 then (if Go.Lib.trimS a2.data.toList [76, 82, 84, 66] = [] then ((bQ.f k a0).bind fun x => if (kW a2 : Int) = x then ((bQ.f k a1).bind fun y => some (decide ((a2.size : Int) - (kW a2 : Int) = y))) else some false) else some false) else none) else some false
theorem ek.mono : ∀ a0 a1 a2 k, LeO (ek.f k a0 a1 a2) (ek.f (k + 1) a0 a1 a2) := by
 intro a0 a1 a2 k
 unfold ek.f
 exact LeO.bind (LeO.refl _) (fun _ => LeO.ite (LeO.ite (LeO.ite (LeO.bind (bQ.mono _ _) (fun _ => LeO.ite (LeO.bind (bQ.mono _ _) (fun _ => LeO.refl _)) (LeO.refl _))) (LeO.refl _)) (LeO.none _)) (LeO.refl _))
theorem ek.calls (k : Nat) (a0 a1 : Int) (a2 : ByteArray) (r : Bool) (w : World) (h : ek.f k a0 a1 a2 = some r) :
  Calls Tryz.prog 77 #[.int .i64 a0, .int .i64 a1, .string a2] w fun e w' => e = .returned (.bool r) ∧ Below w.heap.size w w' := by
 unfold ek.f at h
 obtain ⟨b, hb, h0⟩ := Option.bind_eq_some_iff.1 h
 clear h
 have HB := a_ hb
 clear hb
 cases b with
 | false =>
  rw [if_neg (by simp)] at h0
  injection h0 with e1
  subst e1
  go_enter Tryz.func77, Tryz.ntmps77
  go_wp2_with (go_at_call 60; (with_reducible refine (dP.calls a0 a1 false _ HB.out).mono ?_); rintro e w1 ⟨rfl, ⟨nd, rfl⟩⟩)
  go_ret
  exact ⟨rfl, aN (Below.refl _ _) _⟩
 | true =>
  rw [if_pos rfl] at h0
  by_cases hs : a2.size ≤ 1048576
  ·rw [if_pos hs] at h0
   have hcon := fun W => Go.Proofs.Any.strings_Trim_laid yN (by kernel_rfl) a2 ⟨#[76, 82, 84, 66]⟩ W (by omega) (by decide) (Go.Proofs.ascii_of_all (by decide))
   change ∀ W, Calls Tryz.prog 92 #[.string a2, .string ⟨#[76, 82, 84, 66]⟩] W (fun e w' => e = .returned (.string ⟨(Go.Lib.trimS a2.data.toList [76, 82, 84, 66]).toArray⟩) ∧ Below W.heap.size W w') at hcon
   have hc1 := fun W => Go.Proofs.Any.strings_Count_one sW a2 76 W
   have hc2 := fun W => Go.Proofs.Any.strings_Count_one sW a2 82 W
   change ∀ W, Calls Tryz.prog 93 #[.string a2, .string ⟨#[76]⟩] W (fun e w' => e = .returned (.int .i64 (Go.Lib.countByte a2.data.toList 76)) ∧ w' = W) at hc1
   change ∀ W, Calls Tryz.prog 93 #[.string a2, .string ⟨#[82]⟩] W (fun e w' => e = .returned (.int .i64 (Go.Lib.countByte a2.data.toList 82)) ∧ w' = W) at hc2
   generalize Go.Lib.trimS a2.data.toList [76, 82, 84, 66] = t at hcon h0
   have hn1 : Go.Lib.countByte a2.data.toList 76 ≤ 1048576 := Nat.le_trans List.count_le_length (by simpa using hs)
   have hn2 : Go.Lib.countByte a2.data.toList 82 ≤ 1048576 := Nat.le_trans List.count_le_length (by simpa using hs)
   unfold kW at h0
   generalize Go.Lib.countByte a2.data.toList 76 = n1 at hc1 hn1 h0
   generalize Go.Lib.countByte a2.data.toList 82 = n2 at hc2 hn2 h0
   have e1 : wrap64 ((n1 : Int) + (n2 : Int)) = (n1 : Int) + (n2 : Int) := by unfold wrap64; omega
   have e2 : wrap64 ((a2.size : Int) - ((n1 : Int) + (n2 : Int))) = (a2.size : Int) - ((n1 : Int) + (n2 : Int)) := by unfold wrap64; omega
   rw [show ((n1 + n2 : Nat) : Int) = (n1 : Int) + (n2 : Int) from Int.natCast_add _ _] at h0
   cases t with
   | cons c t =>
    rw [if_neg (by simp)] at h0
    injection h0 with e3
    subst e3
    obtain ⟨S, hS⟩ : ∃ S : ByteArray, (⟨(c :: t).toArray⟩ : ByteArray) = S := ⟨_, rfl⟩
    rw [hS] at hcon
    have z1 : S.toList.isEmpty = false := by rw [← hS, ByteArray.toList_eq]; rfl
    clear hS hn1 hn2 hc1 hc2 hs
    go_enter Tryz.func77, Tryz.ntmps77
    go_wp2_with (first | (go_at_call 60; (with_reducible refine (dP.calls a0 a1 true _ HB.out).mono ?_); rintro e w1 ⟨rfl, ⟨nd, rfl⟩⟩) | (go_at_call 92; (with_reducible refine (hcon _).mono ?_); rintro e w2 ⟨rfl, hb2⟩; have HB2 := a_ hb2; clear hb2))
    go_ret
    exact ⟨rfl, (aN (Below.refl _ _) nd).trans (HB2.out.mono (af (aN (Below.refl w.heap.size w) nd)))⟩
   | nil =>
    rw [if_pos rfl] at h0
    obtain ⟨x, hx, h1⟩ := Option.bind_eq_some_iff.1 h0
    clear h0
    have HX := a_ hx
    have hcon2 : ∀ W, Calls Tryz.prog 92 #[.string a2, .string ⟨#[76, 82, 84, 66]⟩] W (fun e w' => e = .returned (.string ⟨#[]⟩) ∧ Below W.heap.size W w') := hcon
    clear hx hcon hn1 hn2 hs
    by_cases hc : (n1 : Int) + (n2 : Int) = x
    ·rw [if_pos hc] at h1
     obtain ⟨y, hy, h2⟩ := Option.bind_eq_some_iff.1 h1
     clear h1
     injection h2 with e3
     subst e3
     have HY := a_ hy
     clear hy
     have d1 : (((n1 : Int) + (n2 : Int)) == x) = true := by rw [hc]; exact beq_self_eq_true _
     have d2 : ∀ q : Int, (q == y) = decide (q = y) := fun q => rfl
     have HC := a_ hc
     clear hc
     go_enter Tryz.func77, Tryz.ntmps77
     go_wp2_with (first | (go_at_call 60; (with_reducible refine (dP.calls a0 a1 true _ HB.out).mono ?_); rintro e w1 ⟨rfl, ⟨nd, rfl⟩⟩) | (go_at_call 92; (with_reducible refine (hcon2 _).mono ?_); rintro e w2 ⟨rfl, hb2⟩; have HB2 := a_ hb2; clear hb2) | (go_at_call 93; (with_reducible refine (hc1 _).mono ?_); rintro e w3 ⟨rfl, rfl⟩) | (go_at_call 93; (with_reducible refine (hc2 _).mono ?_); rintro e w3 ⟨rfl, rfl⟩) | (go_at_call 74; (with_reducible refine (bQ.calls k a0 x _ HX.out).mono ?_); rintro e w4 ⟨rfl, ⟨nd4, rfl⟩⟩) | (go_at_call 74; (with_reducible refine (bQ.calls k a1 y _ HY.out).mono ?_); rintro e w5 ⟨rfl, ⟨nd5, rfl⟩⟩))
     go_ret
     have hb3 : Below w.heap.size w w3 := (aN (Below.refl _ _) nd).trans (HB2.out.mono (af (aN (Below.refl w.heap.size w) nd)))
     exact ⟨rfl, aN hb3 _⟩
    ·rw [if_neg hc] at h1
     injection h1 with e3
     subst e3
     have d1 : (((n1 : Int) + (n2 : Int)) == x) = false := beq_false_of_ne hc
     have HC := a_ hc
     clear hc
     go_enter Tryz.func77, Tryz.ntmps77
     go_wp2_with (first | (go_at_call 60; (with_reducible refine (dP.calls a0 a1 true _ HB.out).mono ?_); rintro e w1 ⟨rfl, ⟨nd, rfl⟩⟩) | (go_at_call 92; (with_reducible refine (hcon2 _).mono ?_); rintro e w2 ⟨rfl, hb2⟩; have HB2 := a_ hb2; clear hb2) | (go_at_call 93; (with_reducible refine (hc1 _).mono ?_); rintro e w3 ⟨rfl, rfl⟩) | (go_at_call 93; (with_reducible refine (hc2 _).mono ?_); rintro e w3 ⟨rfl, rfl⟩) | (go_at_call 74; (with_reducible refine (bQ.calls k a0 x _ HX.out).mono ?_); rintro e w4 ⟨rfl, ⟨nd4, rfl⟩⟩))
     go_ret
     have hb3 : Below w.heap.size w w3 := (aN (Below.refl _ _) nd).trans (HB2.out.mono (af (aN (Below.refl w.heap.size w) nd)))
     exact ⟨rfl, aN hb3 _⟩
  ·rw [if_neg hs] at h0; cases h0
def dU.f (k : Nat) (a0_0 : Int) (a0_1 : Int) (l0_2 : List Int) (l0_3 : List Int) (l0_4 : List Int) (a1 : ByteArray) : Option (Int) := (bv.f k a0_0 a0_1 l0_2 l0_3 l0_4).bind fun t311 => (if t311 = true then ((ek.f k a0_0 a0_1 a1).bind fun t312 => (if t312 = true then (some 0) else (some 2))) else (some 1))
theorem dU.mono : ∀ a0 a1 a2 a3 a4 a5 k, LeO (dU.f k a0 a1 a2 a3 a4 a5) (dU.f (k + 1) a0 a1 a2 a3 a4 a5) := by
 intro a0 a1 a2 a3 a4 a5 k
 unfold dU.f
 repeat' first | (with_reducible first | exact bv.mono .. | exact ek.mono .. | exact LeO.refl .. | exact LeO.none .. | refine LeO.ite ?_ ?_ | refine LeO.bind ?_ (fun _ => ?_))
theorem dU.calls (k : Nat) (a0_0 : Int) (a0_1 : Int) (A4 : Option Addr) (A6 : Nat) (l0_2 : List Int) (A7 : Option Addr) (A8 : Nat) (l0_3 : List Int) (A9 : Option Addr) (B0 : Nat) (l0_4 : List Int) (a1 : ByteArray) (r : Int) (w : World) (hr0_2 : Kd.C (Kd.int .i64) w A4 l0_2.length l0_2) (hc0_2 : l0_2.length ≤ A6) (hr0_3 : Kd.C (Kd.int .i64) w A7 l0_3.length l0_3) (hc0_3 : l0_3.length ≤ A8) (hr0_4 : Kd.C (Kd.int .i64) w A9 l0_4.length l0_4) (hc0_4 : l0_4.length ≤ B0) (h : dU.f k a0_0 a0_1 l0_2 l0_3 l0_4 a1 = some r) :
  Calls Tryz.prog 39 #[.agg #[.int .i64 a0_0, .int .i64 a0_1, .slice A4 l0_2.length A6, .slice A7 l0_3.length A8, .slice A9 l0_4.length B0], .string a1] w fun e w' => e = .returned (.int .i64 r) ∧ Below w.heap.size w w' := by
 have hu28 := Tryz.underlying28
 have B3 := a_ hr0_2
 have B4 := a_ hc0_2
 clear hr0_2 hc0_2
 have B7 := a_ hr0_3
 have C0 := a_ hc0_3
 clear hr0_3 hc0_3
 have HR0_4 := a_ hr0_4
 have C1 := a_ hc0_4
 clear hr0_4 hc0_4
 have HB := a_ (Below.refl w.heap.size w)
 have H : ((bv.f k a0_0 a0_1 l0_2 l0_3 l0_4).bind fun C4 => (if C4 = true then ((ek.f k a0_0 a0_1 a1).bind fun C2 => (if C2 = true then (some 0) else (some 2))) else (some 1))) = some r := h
 clear h
 replace H := bo_ H; obtain ⟨C4, A3, H⟩ := H; (try dsimp only at H)
 by_cases c4 : C4 = true
 ·subst c4
  have H1 : ((ek.f k a0_0 a0_1 a1).bind fun C2 => (if C2 = true then (some 0) else (some 2))) = some r := by rw [if_pos rfl] at H; exact H
  clear H
  have H := H1
  clear H1
  replace H := bo_ H; obtain ⟨C2, A5, H⟩ := H; (try dsimp only at H)
  by_cases c6 : C2 = true
  ·subst c6
   have H1 : (some 0) = some r := by rw [if_pos rfl] at H; exact H
   clear H
   have H := H1
   clear H1
   obtain rfl := Option.some.inj H
   go_enter Tryz.func39, Tryz.ntmps39
   go_wp2_with (first | ((with_reducible refine bf (N := 2) rfl ?_); refine cz ?hg (N := 2) ?hd (cs := #[.int .i64 a0_0, .int .i64 a0_1, .slice A4 l0_2.length A6, .slice A7 l0_3.length A8, .slice A9 l0_4.length B0]) (t := 28) ?hr ?_; (case hd => rfl); (case hg => rfl); (case hr => first | (go_simp; done) | (go_simp; rfl)); intro A2 hg w7 hbox hb; have A1 := a_ (hbox); have C3 := a_ ((fG : w.heap.size ≤ A2)); have GE310 := a_ ((fG : w.heap.size ≤ A2)); replace HB := df bO hb; clear hb hbox hg; obtain ⟨G5, G6, G7, G8, G9, H0, H2, H3, H4, H5⟩ := eH (w := w7) A1.out) | ((with_reducible refine av (f := 20) rfl ?_); refine bI (some 7) rfl rfl Tryz.func20 (by kernel_rfl) rfl #[.agg #[.int .i64 a0_0, .int .i64 a0_1, .slice A4 l0_2.length A6, .slice A7 l0_3.length A8, .slice A9 l0_4.length B0]] rfl dL ?_; (with_reducible refine (bv.calls k a0_0 a0_1 (fun k_ => k_ < w.heap.size) _ _ l0_2 (fun k_ => k_ < w.heap.size) _ _ l0_3 _ _ l0_4 true _ ?side1 ?side2 ?side3 ?side4 A3.out).mono ?_); (case side1 => exact Kd.rQ B4.out (Kd.jg (Kd.C_F (Kd.jb .i64) B3.out) oQ)); (case side2 => exact Kd.rQ C0.out (Kd.jg (Kd.C_F (Kd.jb .i64) B7.out) oQ)); (case side3 => exact kc_ (Kd.bE HR0_4.out HB.out)); (case side4 => exact C1.out); rintro e w9 ⟨rfl, hb⟩; refine ⟨_, rfl, ?_⟩; replace A1 := bb_ A2 A1 hb; replace HB := df oQ hb; (try clear hb); obtain ⟨C5, C6, C7, C8, C9, D0, D1, D2, D3, D4⟩ := eH (w := w9) A1.out) | ((with_reducible refine av (f := 77) rfl ?_); refine bI (some 15) rfl rfl Tryz.func77 (by kernel_rfl) rfl #[.int .i64 a0_0, .int .i64 a0_1, .string a1] rfl dL ?_; (with_reducible refine (ek.calls k a0_0 a0_1 a1 true _ A5.out).mono ?_); rintro e H9 ⟨rfl, hb⟩; refine ⟨_, rfl, ?_⟩; replace A1 := bb_ A2 A1 hb; replace HB := df oQ hb; (try clear hb)))
   go_ret
   exact ⟨fO, oQ⟩
  ·replace c6 := Bool.eq_false_iff.mpr c6
   subst c6
   have H1 : (some 2) = some r := by rw [if_neg (show ¬ (false = true) by decide)] at H; exact H
   clear H
   have H := H1
   clear H1
   obtain rfl := Option.some.inj H
   go_enter Tryz.func39, Tryz.ntmps39
   go_wp2_with (first | ((with_reducible refine bf (N := 2) rfl ?_); refine cz ?hg (N := 2) ?hd (cs := #[.int .i64 a0_0, .int .i64 a0_1, .slice A4 l0_2.length A6, .slice A7 l0_3.length A8, .slice A9 l0_4.length B0]) (t := 28) ?hr ?_; (case hd => rfl); (case hg => rfl); (case hr => first | (go_simp; done) | (go_simp; rfl)); intro A2 hg H6 hbox hb; have A1 := a_ (hbox); have C3 := a_ ((fG : w.heap.size ≤ A2)); have GE310 := a_ ((fG : w.heap.size ≤ A2)); replace HB := df bO hb; clear hb hbox hg; obtain ⟨D5, D6, D7, D8, D9, E0, E1, E2, E3, E4⟩ := eH (w := H6) A1.out) | ((with_reducible refine av (f := 20) rfl ?_); refine bI (some 7) rfl rfl Tryz.func20 (by kernel_rfl) rfl #[.agg #[.int .i64 a0_0, .int .i64 a0_1, .slice A4 l0_2.length A6, .slice A7 l0_3.length A8, .slice A9 l0_4.length B0]] rfl dL ?_; (with_reducible refine (bv.calls k a0_0 a0_1 (fun k_ => k_ < w.heap.size) _ _ l0_2 (fun k_ => k_ < w.heap.size) _ _ l0_3 _ _ l0_4 true _ ?side1 ?side2 ?side3 ?side4 A3.out).mono ?_); (case side1 => exact Kd.rQ B4.out (Kd.jg (Kd.C_F (Kd.jb .i64) B3.out) oQ)); (case side2 => exact Kd.rQ C0.out (Kd.jg (Kd.C_F (Kd.jb .i64) B7.out) oQ)); (case side3 => exact kc_ (Kd.bE HR0_4.out HB.out)); (case side4 => exact C1.out); rintro e H7 ⟨rfl, hb⟩; refine ⟨_, rfl, ?_⟩; replace A1 := bb_ A2 A1 hb; replace HB := df oQ hb; (try clear hb); obtain ⟨E5, E6, E7, E8, E9, F0, F1, F2, F3, F4⟩ := eH (w := H7) A1.out) | ((with_reducible refine av (f := 77) rfl ?_); refine bI (some 15) rfl rfl Tryz.func77 (by kernel_rfl) rfl #[.int .i64 a0_0, .int .i64 a0_1, .string a1] rfl dL ?_; (with_reducible refine (ek.calls k a0_0 a0_1 a1 false _ A5.out).mono ?_); rintro e I0 ⟨rfl, hb⟩; refine ⟨_, rfl, ?_⟩; replace A1 := bb_ A2 A1 hb; replace HB := df oQ hb; (try clear hb)))
   go_ret
   exact ⟨fO, oQ⟩
 ·replace c4 := Bool.eq_false_iff.mpr c4
  subst c4
  have H1 : (some 1) = some r := by rw [if_neg (show ¬ (false = true) by decide)] at H; exact H
  clear H
  have H := H1
  clear H1
  obtain rfl := Option.some.inj H
  go_enter Tryz.func39, Tryz.ntmps39
  go_wp2_with (first | ((with_reducible refine bf (N := 2) rfl ?_); refine cz ?hg (N := 2) ?hd (cs := #[.int .i64 a0_0, .int .i64 a0_1, .slice A4 l0_2.length A6, .slice A7 l0_3.length A8, .slice A9 l0_4.length B0]) (t := 28) ?hr ?_; (case hd => rfl); (case hg => rfl); (case hr => first | (go_simp; done) | (go_simp; rfl)); intro A2 hg H8 hbox hb; have A1 := a_ (hbox); have C3 := a_ ((fG : w.heap.size ≤ A2)); have GE310 := a_ ((fG : w.heap.size ≤ A2)); replace HB := df bO hb; clear hb hbox hg; obtain ⟨F5, F6, F7, F8, F9, G0, G1, G2, G3, G4⟩ := eH (w := H8) A1.out) | ((with_reducible refine av (f := 20) rfl ?_); refine bI (some 7) rfl rfl Tryz.func20 (by kernel_rfl) rfl #[.agg #[.int .i64 a0_0, .int .i64 a0_1, .slice A4 l0_2.length A6, .slice A7 l0_3.length A8, .slice A9 l0_4.length B0]] rfl dL ?_; (with_reducible refine (bv.calls k a0_0 a0_1 (fun k_ => k_ < w.heap.size) _ _ l0_2 (fun k_ => k_ < w.heap.size) _ _ l0_3 _ _ l0_4 false _ ?side1 ?side2 ?side3 ?side4 A3.out).mono ?_); (case side1 => exact Kd.rQ B4.out (Kd.jg (Kd.C_F (Kd.jb .i64) B3.out) oQ)); (case side2 => exact Kd.rQ C0.out (Kd.jg (Kd.C_F (Kd.jb .i64) B7.out) oQ)); (case side3 => exact kc_ (Kd.bE HR0_4.out HB.out)); (case side4 => exact C1.out); rintro e I1 ⟨rfl, hb⟩; refine ⟨_, rfl, ?_⟩; replace A1 := bb_ A2 A1 hb; replace HB := df oQ hb; (try clear hb)))
  go_ret
  exact ⟨fO, oQ⟩
def oD : Go.Shelf.Ren := ⟨fun | 4 => 114 | n => n, fun | 22 => 61 | 25 => 64 | 3 => 3 | 4 => 4 | 9 => 9 | 20 => 20 | 0 => 0 | n => n, fun | n => n⟩
theorem nJ : Go.Proofs.Lays8.n4 Tryz.prog oD := {
 mixed := by kernel_rfl
 f4 := ⟨Tryz.f114.name, by decide, Tryz.func114.trans (congrArg some (by kernel_rfl))⟩
 t0 := Tryz.underlying0
 a0 := Tryz.isAgg0
 z0 := Tryz.sizeOf0
 v0 := Tryz.zeroValue0
 t3 := Tryz.underlying3
 a3 := Tryz.isAgg3
 z3 := Tryz.sizeOf3
 v3 := Tryz.zeroValue3
 t4 := Tryz.underlying4
 a4 := Tryz.isAgg4
 z4 := Tryz.sizeOf4
 v4 := Tryz.zeroValue4
 t9 := Tryz.underlying9
 a9 := Tryz.isAgg9
 z9 := Tryz.sizeOf9
 v9 := Tryz.zeroValue9
 t20 := Tryz.underlying20
 a20 := Tryz.isAgg20
 z20 := Tryz.sizeOf20
 v20 := Tryz.zeroValue20
 t22 := Tryz.underlying61
 a22 := Tryz.isAgg61
 z22 := Tryz.sizeOf61
 v22 := Tryz.zeroValue61 }
def iO.f (l0 : List S64) (a1 : Int) : Option (List S64) := if l0 = [] then (if 0 ≤ a1 then (if a1 ≤ 1000000 then some [] else none) else none) else none
theorem iO.calls (P0_ : Nat → Prop) (u_ : Value) (l0 : List S64) (a1 : Int) (r : List S64) (w0 w : World) (hB : Below w0.heap.size w0 w) (ho0 : Kd.R k64 64 w w0.heap.size P0_ u_ l0) (h : iO.f l0 a1 = some r) :
  Calls Tryz.prog 114 #[u_, .int .i64 a1] w fun e w' => ∃ v0_ : Value, e = .returned (v0_) ∧ Kd.R k64 64 w' w0.heap.size (fun k_ => (P0_ k_ ∨ w.heap.size ≤ k_)) v0_ r ∧ Below w0.heap.size w0 w' ∧ Kept w w' (fun k_ => P0_ k_) := by
 unfold iO.f at h
 by_cases c1 : l0 = []
 ·rw [if_pos c1] at h
  by_cases c2 : 0 ≤ a1
  ·rw [if_pos c2] at h
   by_cases c3 : a1 ≤ 1000000
   ·rw [if_pos c3] at h
    subst c1
    obtain rfl := Option.some.inj h
    clear h
    obtain ⟨n, rfl⟩ := Int.eq_ofNat_of_zero_le c2
    have hw := hB.size
    obtain ⟨i0, hi0, hz0, hz1, hz2⟩ := info_parts (show (Tryz.prog.info? 64).map (fun i => (i.zero, i.size, i.bytes)) = some (some (.agg #[.int .i64 0, .int .i64 0, .bool false, .bool false]), 4, 24) by kernel_rfl)
    have key : ∀ (base : Option Addr) (c : Nat) (cs : List Value), u_ = .slice base 0 c → c ≤ maxLen → cs.length = c * 4 → (base = none → c = 0) → (∀ a, base = some a → ∀ j v, cs[j]? = some v → w.cell? (a.add j) = some v) → Calls Tryz.prog 114 #[u_, .int .i64 (n : Int)] w fun e w' => ∃ v0_ : Value, e = .returned (v0_) ∧ Kd.R k64 64 w' w0.heap.size (fun k_ => (P0_ k_ ∨ w.heap.size ≤ k_)) v0_ [] ∧ Below w0.heap.size w0 w' ∧ Kept w w' (fun k_ => P0_ k_) := by
     intro base c cs hu hmx hcl hnil hcs
     subst hu
     by_cases hr : 0 + n ≤ c
     ·have hcon := Go.Proofs.Any8.slices_Grow_room nJ base 0 c n w (Nat.zero_le _) (by simpa [maxLen] using hmx) (by omega) hr
      change Calls Tryz.prog 114 _ _ _ at hcon
      refine hcon.mono ?_
      rintro e w' ⟨rfl, rfl⟩
      exact ⟨_, rfl, Kd.ae ho0 (fun _ hk => .inl hk), hB, Kept.refl _ _⟩
     ·have hcon := Go.Proofs.Any8.slices_Grow_grow nJ i0 (.agg #[.int .i64 0, .int .i64 0, .bool false, .bool false]) hi0 hz0 (by omega) base 0 c n cs w (Nat.zero_le _) (by omega) (by rw [hz2]; omega) (by omega) (by rw [hz1, hcl]) hnil hcs
      change Calls Tryz.prog 114 _ _ _ at hcon
      refine hcon.mono ?_
      rintro e w' ⟨rfl, rfl⟩
      have hge := grownCap_ge w (0 + n) c 64
      have hle := grownCap_le_maxLen w (0 + n) c 64 (by unfold maxLen; omega)
      refine ⟨_, rfl, ⟨fun k hk => .inr ?_, [], ⟨by rfl, .inr ⟨w.heap.size, _, _, rfl, hw, heap_alloc_new _ _, Nat.zero_le _, hle, ?_, by rfl⟩⟩, dm.none _ _⟩, (hB.drew).alloc hw _, (Kept.refl w _).below (((Below.refl _ _).drew).alloc (Nat.le_refl _) _)⟩
      ·simp [Value.ownBlock] at hk
       omega
      ·rw [Array.size_append, Array.size_append, size_zeroCells, size_zeroCells, List.size_toArray, hcl]
       show c * 4 + (0 + n - c) * 4 + (grownCap w (0 + n) c 64 - (0 + n)) * 4 = grownCap w (0 + n) c 64 * 4
       omega
    obtain ⟨wy, ho_⟩ := Kd.sH ho0
    obtain ⟨_, ho⟩ := ho_
    rcases ho with ⟨hv, _⟩ | ⟨g, cap, cur, hv, hg, hh, hn, hm, hsz, _⟩
    ·exact key none 0 [] hv (Nat.zero_le _) rfl (fun _ => rfl) (fun a ha => by cases ha)
    ·refine key (some ⟨g, 0, none⟩) cap cur.toList hv hm (by rw [Array.length_toList, hsz]; rfl) (fun ha => by cases ha) ?_
     intro a ha j v hj
     injection ha with ha
     subst ha
     have e : (⟨g, 0, none⟩ : Addr).add j = ⟨g, j, none⟩ := by
      unfold Addr.add
      split
      ·rename_i h0
       rw [h0]
      ·simp
     rw [e]
     simp only [World.cell?, hh]
     simpa using hj
   ·rw [if_neg c3] at h
    exact absurd h (by simp)
  ·rw [if_neg c2] at h
   exact absurd h (by simp)
 ·rw [if_neg c1] at h
  exact absurd h (by simp)
mutual
def bK.l0 : Nat → List (List (S64)) → Int → List (List (S64)) → Int → Int → Option ((List (S64)))
 | 0, _, _, _, _, _ => none
 | k + 1, x0, x3, x9, x10, x11 => if x11 < x10 then (if 0 ≤ x11 then (if x11 < (x9.length : Int) then (if (wrap64 (x3 + ((dY x9 x11).length : Int))) < 0 then (none) else (bK.l0 k x0 (wrap64 (x3 + ((dY x9 x11).length : Int))) x9 x10 (wrap64 (x11 + 1)))) else (none)) else (none)) else ((iO.f ([] : List (S64)) x3).bind fun t314 => (bK.l1 k t314 x0 (x0.length : Int) 0))
def bK.l1 : Nat → List (S64) → List (List (S64)) → Int → Int → Option ((List (S64)))
 | 0, _, _, _, _ => none
 | k + 1, x6, x25, x26, x27 => if x27 < x26 then (if 0 ≤ x27 then (if x27 < (x25.length : Int) then (if x6.length + (dY x25 x27).length < 5864062014805 then (bK.l1 k (x6 ++ (dY x25 x27)) x25 x26 (wrap64 (x27 + 1))) else (none)) else (none)) else (none)) else (some x6)
end
def bK.f (k : Nat) (l0 : List (List (S64))) : Option ((List (S64))) := bK.l0 k l0 0 l0 (l0.length : Int) 0
theorem bK.di : ∀ k, (∀ y0 y1 y2 y3 y4, LeO (bK.l0 k y0 y1 y2 y3 y4) (bK.l0 (k + 1) y0 y1 y2 y3 y4)) ∧ (∀ y0 y1 y2 y3, LeO (bK.l1 k y0 y1 y2 y3) (bK.l1 (k + 1) y0 y1 y2 y3))
 | 0 => ⟨fun _ _ _ _ _ r h => by simp [bK.l0] at h, fun _ _ _ _ r h => by simp [bK.l1] at h⟩
 | k + 1 => by
  obtain ⟨ih0, ih1⟩ := bK.di k
  refine ⟨?_, ?_⟩ <;> intros <;> (first | unfold bK.l0 | unfold bK.l1) <;> (repeat' first | (with_reducible first | exact ih0 .. | exact ih1 .. | exact LeO.refl .. | exact LeO.none .. | refine LeO.ite ?_ ?_ | refine LeO.bind ?_ (fun _ => ?_)))
theorem bK.mono : ∀ a0 k, LeO (bK.f k a0) (bK.f (k + 1) a0) := by
 intro a0 k
 obtain ⟨ih0, ih1⟩ := bK.di k
 unfold bK.f
 repeat' first | (with_reducible first | exact ih0 .. | exact ih1 .. | exact LeO.refl .. | exact LeO.none .. | refine LeO.ite ?_ ?_ | refine LeO.bind ?_ (fun _ => ?_))
theorem bK.calls (k : Nat) (A0 : Option Addr) (c0 : Nat) (l0 : List (List (S64))) (r : List (S64)) (w : World) (hr0 : Kd.C (Kd.slice 64 k64) w A0 l0.length l0) (hc0 : l0.length ≤ c0) (h : bK.f k l0 = some r) :
  Calls Tryz.prog 95 #[.slice A0 l0.length c0] w fun e w' => ∃ v0_ : Value, e = .returned (v0_) ∧ Kd.R k64 64 w' w.heap.size (fun _ => True) v0_ r ∧ Below w.heap.size w w' := by
 have HR0 := a_ hr0
 have E9 := a_ hc0
 clear hr0 hc0
 have HB := a_ (Below.refl w.heap.size w)
 have H : (bK.l0 k l0 0 l0 (l0.length : Int) 0) = some r := h
 clear h
 have H' := a_ H
 clear H
 go_enter Tryz.func95, Tryz.ntmps95
 go_wp2
 go_loopg [3, 11] k (fun kq v3 v11 w' => ∃ (B0 : Int) (A2 : Int), v3 = .int .i64 B0 ∧ v11 = .int .i64 A2 ∧ ah (bK.l0 kq l0 B0 l0 (l0.length : Int) A2 = some r) ∧ ah (kq ≤ k) ∧ ah (Below w.heap.size w w'))
 case atStart => exact ⟨(0), (0), bZ, bZ, H', ⟨Nat.le_refl _⟩, ⟨bO⟩⟩
 case round =>
  clear H'
  obtain ⟨B0, A2, rfl, rfl, HA, HK1, HB⟩ := hrel
  cases gk with
  | zero => exact absurd HA.out (by simp [bK.l0])
  | succ k1 =>
   have H := HA.out
   clear HA
   simp only [bK.l0] at H
   by_cases c2 : A2 < (l0.length : Int)
   ·rw [if_pos c2] at H
    have C4 := decide_eq_true c2
    clear c2
    replace H := ig_ H; obtain ⟨c3, H⟩ := H
    have E3 := decide_eq_true c3
    clear c3
    replace H := ig_ H; obtain ⟨c4, H⟩ := H
    have E4 := decide_eq_true c4
    clear c4
    replace H := in_ H; obtain ⟨c5, H⟩ := H
    have E5 := decide_eq_false c5
    clear c5
    have H' := a_ H
    clear H
    have C0 : 0 ≤ (A2 : Int) := of_decide_eq_true aG
    have C1 : A2 < (l0.length : Int) := of_decide_eq_true aG
    obtain ⟨E0, D3, D4, D5, A3, A5, A7⟩ := kT HR0.out A2 C0 C1
    cases D5
    replace A3 := (HB.out.cell (World.block_lt_of_cell? _ _ A3)).trans A3
    have D0 := a_ A7
    have D1 := a_ A5
    clear A7 A5
    replace C0 := eq_true C0
    replace C1 := eq_true C1
    go_wp2
    go_roundg k1
    case measure => have := HK1.out; omega
    case rel => exact ⟨(wrap64 (B0 + ((dY l0 A2).length : Int))), (wrap64 (A2 + 1)), bZ, bZ, H', ⟨jR⟩, ⟨bO⟩⟩
   rw [if_neg c2] at H
   have C4 := decide_eq_false c2
   clear c2
   replace H := bo_ H; obtain ⟨C5, A6, H⟩ := H; (try dsimp only at H)
   have H' := a_ H
   clear H
   go_wp2_with (first | ((with_reducible refine av (f := 114) rfl ?_); refine bI (some 24) rfl rfl Tryz.func114 (by kernel_rfl) rfl #[.slice none 0 0, .int .i64 B0] rfl dL ?_; (refine (iO.calls (fun k_ => some k_ = (.slice none 0 0 : Value).ownBlock) (.slice none 0 0) ([] : List (S64)) B0 C5 w _ ?side1 ?side2 A6.out).mono ?_); (case side1 => exact bO); (case side2 => exact Kd.qM _ _ _ _ _); rintro e w7 ⟨E6, rfl, ho0, hb, hkp⟩; refine ⟨_, rfl, ?_⟩; have C6 := a_ (Kd.ae (ok' := fun k_ => True) ho0 (fun k_ hk_ => trivial)); replace HB := a_ (hb); (try clear hb); (try clear hkp); (try clear ho0)))
   go_loopg [6, 27] k1 (fun kq v6 v27 w' => ∃ (B3 : List (S64)) (A1 : Int), v27 = .int .i64 A1 ∧ ah (bK.l1 kq B3 l0 (l0.length : Int) A1 = some r) ∧ ah (kq ≤ k1) ∧ ah (Kd.R k64 64 w' w.heap.size (fun _ => True) v6 B3) ∧ ah (Below w.heap.size w w'))
   case atStart => exact ⟨(C5), (0), bZ, H', ⟨Nat.le_refl _⟩, ⟨by (with_reducible repeat (first | apply Kd.aC | apply Kd.aD | apply Kd.az)); exact C6.out⟩, ⟨bO⟩⟩
   case round =>
    clear H'
    try clear C4
    obtain ⟨B3, A1, rfl, HA, HK2, HO_6, HB⟩ := hrel
    cases gk with
    | zero => exact absurd HA.out (by simp [bK.l1])
    | succ k2 =>
     have H := HA.out
     clear HA
     simp only [bK.l1] at H
     by_cases c8 : A1 < (l0.length : Int)
     ·rw [if_pos c8] at H
      have D6 := decide_eq_true c8
      clear c8
      replace H := ig_ H; obtain ⟨c9, H⟩ := H
      have E7 := decide_eq_true c9
      clear c9
      replace H := ig_ H; obtain ⟨c10, H⟩ := H
      have E1 := decide_eq_true c10
      clear c10
      replace H := ig_ H; obtain ⟨c11, H⟩ := H
      have LMc11 := a_ c11
      clear c11
      obtain ⟨C7, B4⟩ : ∃ y_ : List (S64), y_ = (B3 ++ (dY l0 A1)) := ⟨_, rfl⟩
      replace H : (bK.l1 k2 C7 l0 (l0.length : Int) (wrap64 (A1 + 1))) = some r := rh_ B4 H
      have C8 := a_ B4
      clear B4
      have H' := a_ H
      clear H
      have C2 : 0 ≤ (A1 : Int) := of_decide_eq_true aG
      have C3 : A1 < (l0.length : Int) := of_decide_eq_true aG
      obtain ⟨E2, D7, D8, D9, A4, A8, A9⟩ := kT HR0.out A1 C2 C3
      cases D9
      replace A4 := (HB.out.cell (World.block_lt_of_cell? _ _ A4)).trans A4
      have B7 := a_ A9
      have D2 := a_ A8
      clear A9 A8
      replace C2 := eq_true C2
      replace C3 := eq_true C3
      go_wp2_with (first | ((with_reducible refine bF (b := .append) (xs := #[.tmp 31, .tmp 32]) rfl ?_); at_builtin; refine Kd.dO k64 (w0 := w) w.heap.size rfl (.tmp 31) (.tmp 32) 61 64 (.agg #[(.int .i64 0), (.int .i64 0), (.bool false), (.bool false)]) 24 rfl Tryz.underlying61 lN rfl (by decide) (by omega) u6 B3 (dY l0 A1) _ _ _ (fun _ => True) (fun _ => False) rfl rfl ?aO ?aR (fun _ _ h => h) (fun _ h => h.elim) ?aF ?aB ?aS ?aL ?_; (case aR => exact kc_ (Kd.bE B7.out HB.out)); (case aB => exact bO); (case aF => exact (fun _ _ => trivial)); (case aO => exact (ra_ HO_6.out)); (case aS => exact (af bO)); (case aL => have := LMc11.out; omega); intro E8 F0 ho hb hg hat; rw [← C8.out] at ho; replace HB := a_ (hb); have C9 := a_ (ho); clear HO_6; clear ho hb hg hat))
      go_roundg k2
      case measure => have := HK1.out; have := HK2.out; omega
      case rel => exact ⟨(C7), (wrap64 (A1 + 1)), bZ, H', ⟨ko⟩, ⟨by (with_reducible repeat (first | apply Kd.aC | apply Kd.aD | apply Kd.az)); exact C9.out⟩, ⟨bO⟩⟩
     rw [if_neg c8] at H
     have D6 := decide_eq_false c8
     clear c8
     obtain rfl := Option.some.inj H
     go_wp2
     go_ret
     exact ⟨_, fO, tQ, bO⟩
def dV.jB (a : Bool) (x : S64) : S64 := if a = true then ⟨x.f0, x.f1, x.f2, !x.f3⟩ else ⟨x.f0, x.f1, !x.f2, x.f3⟩
def dV.f (l0 : List S64) (a1 : Bool) : Option (List S64) := if l0.length ≤ 1000000 then some (l0.reverse.map (dV.jB a1)) else none
theorem dV.pM (l : List S64) (a : Bool) (j m : Nat) (h : m + 1 + j = l.length) : (l.reverse.take (j + 1)).map (dV.jB a) = (l.reverse.take j).map (dV.jB a) ++ [dV.jB a (l.getD m z64)] := by
 have hj : j < l.reverse.length := by rw [List.length_reverse]; omega
 rw [List.take_succ_eq_append_getElem hj, List.map_append, List.map_cons, List.map_nil, List.getElem_reverse]
 congr 2
 rw [List.getD_eq_getElem?_getD, List.getElem?_eq_getElem (by omega), Option.getD_some]
 congr 2
 omega
theorem dV.om (a : Bool) (w : World) (base : Nat) (ok : Nat → Prop) (x : S64) : k64.M w base ok (dV.jB a x) [.int .i64 x.f0, .int .i64 x.f1, .bool (if a = true then x.f2 else !x.f2), .bool (if a = true then !x.f3 else x.f3)] := by
 cases a
 ·exact nk w base ok ⟨x.f0, x.f1, !x.f2, x.f3⟩
 ·exact nk w base ok ⟨x.f0, x.f1, x.f2, !x.f3⟩
theorem dV.calls (A0 : Option Addr) (c0 : Nat) (l0 : List (S64)) (a1 : Bool) (r : List (S64)) (w : World) (hr0 : Kd.C k64 w A0 l0.length l0) (hc0 : l0.length ≤ c0) (h : dV.f l0 a1 = some r) :
  Calls Tryz.prog 96 #[.slice A0 l0.length c0, .bool a1] w fun e w' => ∃ v0_ : Value, e = .returned (v0_) ∧ Kd.R k64 64 w' w.heap.size (fun _ => True) v0_ r ∧ Below w.heap.size w w' := by
 unfold dV.f at h
 by_cases hl : l0.length ≤ 1000000
 ·rw [if_pos hl] at h
  injection h with h
  obtain ⟨n, hn⟩ : ∃ n : Nat, l0.length = n := ⟨_, rfl⟩
  rw [hn] at hl
  have HR := a_ hr0
  have HE := a_ h
  have HN := a_ hn
  have HL := a_ hl
  have e1 : wrap64 ((n : Int) - 1) = (n : Int) - 1 := by unfold wrap64; omega
  have f1 : IntKind.i64.wrap ((n : Int) - 1) = (n : Int) - 1 := (eU _).trans e1
  obtain ⟨i0, hi0⟩ : ∃ i0 : Int, (n : Int) - 1 = i0 := ⟨_, rfl⟩
  have HI0 := a_ hi0
  rw [hn]
  have HE1 := a_ (e1.trans hi0)
  clear e1 f1
  clear hr0 h hn hl hc0 hi0
  have HB := a_ (Below.refl w.heap.size w)
  go_enter Tryz.func96, Tryz.ntmps96
  go_wp2_with (first | ((with_reducible refine bf (N := 8) rfl ?_); refine Kd.fU k64 _ 64 ?hg (N := 8) ?hd (xs := ([] : List (S64))) (inner := []) (ok := fun _ => True) (okp := fun _ => True) ?hr ?hp (fun _ hk => hk) trivial (Below.refl _ _) (Nat.le_refl _) (by simp) ?_; (case hd => rfl); (case hg => rfl); (case hr => first | (go_simp; done) | (go_simp; rfl)); (case hp => exact (dm.none _ _)); intro A7 w3 ho4 hb hg_ hnew_; clear hg_ hnew_; have HO := a_ ho4; have HB1 := a_ hb; clear ho4 hb))
  go_loopg [5, 6] (n + 1) (fun kq v5 v6 w' => ∃ (i : Int) (j : Nat), v6 = .int .i64 i ∧ ah (i = (n : Int) - 1 - (j : Int) ∧ j ≤ n ∧ j + kq = n + 1) ∧ ah (Kd.R k64 64 w' w.heap.size (fun _ => True) v5 ((l0.reverse.take j).map (dV.jB a1))) ∧ ah (Below w.heap.size w w'))
  case atStart => exact ⟨wrap64 ((n : Int) - 1), 0, rfl, ⟨by have := HE1.out; have := HI0.out; omega, by omega, by omega⟩, ⟨by simpa using HO.out⟩, HB1⟩
  case round =>
   clear HO HB1 HI0 HE1
   obtain ⟨i, j, rfl, HJ, HO, HB⟩ := hrel
   cases gk with
   | zero => exact absurd HJ.out (fun h => by omega)
   | succ k1 =>
    by_cases hj : j = n
    ·have hi : i < 0 := by have := HJ.out; omega
     have d1 : decide (i ≥ 0) = false := decide_eq_false (by omega)
     have d2 : decide (0 ≤ i) = false := decide_eq_false (by omega)
     clear hi
     have HJN := a_ hj
     clear hj
     go_wp2
     go_ret
     refine ⟨_, rfl, ?_, HB.out⟩
     have h := HO.out
     rw [← HE.out]
     have e : l0.reverse.take j = l0.reverse := List.take_of_length_le (by rw [List.length_reverse, HN.out, HJN.out]; exact Nat.le_refl _)
     rw [e] at h
     exact h
    ·obtain ⟨m, rfl⟩ : ∃ m : Nat, i = (m : Int) := ⟨i.toNat, by have := HJ.out; omega⟩
     have HM := a_ (show m + 1 + j = n by have := HJ.out; omega)
     have hml : m < l0.length := by have := HM.out; have := HN.out; omega
     obtain ⟨ad, eA, hx0, hx1, hx2, hx3⟩ := qP HR.out (m : Int) (by omega) (by omega)
     cases eA
     have hx : aa l0 (m : Int) = l0.getD m z64 := rfl
     rw [hx] at hx0 hx1 hx2 hx3
     clear hx
     have HT := a_ (dV.pM l0 a1 j m (by have := HM.out; have := HN.out; omega))
     have HC := a_ (dV.om a1)
     generalize l0.getD m z64 = x at hx0 hx1 hx2 hx3 HT
     replace hx0 := (HB.out.cell (World.block_lt_of_cell? _ _ hx0)).trans hx0
     replace hx1 := (HB.out.cell (World.block_lt_of_cell? _ _ hx1)).trans hx1
     replace hx2 := (HB.out.cell (World.block_lt_of_cell? _ _ hx2)).trans hx2
     replace hx3 := (HB.out.cell (World.block_lt_of_cell? _ _ hx3)).trans hx3
     rw [show ((m : Int)).toNat = m from Int.toNat_natCast m] at hx0 hx1 hx2 hx3
     have hmn : m < n := by have := HM.out; omega
     have d1 : decide ((m : Int) ≥ 0) = true := decide_eq_true (by omega)
     have d2 : decide (0 ≤ (m : Int)) = true := decide_eq_true (by omega)
     have g1 := eq_true hmn
     have g2 := eq_true (show (m : Int) < (n : Int) by omega)
     have e1 : wrap64 ((m : Int) - 1) = (m : Int) - 1 := by have := HL.out; unfold wrap64; omega
     obtain ⟨i1, hi1⟩ : ∃ i1 : Int, (m : Int) - 1 = i1 := ⟨_, rfl⟩
     have HI1 := a_ hi1
     have HL2 := a_ (show ((l0.reverse.take j).map (dV.jB a1)).length = j by rw [List.length_map, List.length_take, List.length_reverse]; have := HM.out; have := HN.out; omega)
     replace e1 := e1.trans hi1
     have f1 : IntKind.i64.wrap ((m : Int) - 1) = i1 := (eU _).trans e1
     have A5 := a_ (show j + (k1 + 1) = n + 1 from HJ.out.2.2)
     clear hi1 hmn hj hml HJ
     obtain ⟨gb, hgb⟩ : ∃ gb : Nat, wr.heap.size = gb := ⟨_, rfl⟩
     cases a1
     all_goals
      go_upto_if 20 with ((with_reducible refine bf (N := 7) rfl ?_); refine cz ?hg (N := 7) ?hd (cs := #[.int .i64 0, .int .i64 0, .bool false, .bool false]) (t := 64) ?hr ?_; (case hd => rfl); (case hg => rfl); (case hr => first | (go_simp; done) | (go_simp; rfl)); intro A1 hg A4 hbox hb; have BK := a_ hbox; have HBX := a_ hb; have HG := a_ hg; have hcz0 : A4.cell? ⟨A1, 0, none⟩ = some (.int .i64 0) := (ai hbox 0).trans rfl; have hcz1 : A4.cell? ⟨A1, 1, none⟩ = some (.int .i64 0) := (ai hbox 1).trans rfl; have hcz2 : A4.cell? ⟨A1, 2, none⟩ = some (.bool false) := (ai hbox 2).trans rfl; have hcz3 : A4.cell? ⟨A1, 3, none⟩ = some (.bool false) := (ai hbox 3).trans rfl; have hfz0 := bG hbox 0; have hfz1 := bG hbox 1; have hfz2 := bG hbox 2; have hfz3 := bG hbox 3; clear hb hbox hg)
     all_goals
      have hw0 := af HB.out
      have hgE := HG.out
      have HGE := a_ (show w.heap.size ≤ A1 by omega)
      clear hw0 hgE
      have hB1 := a_ (bi (j := 3) (v := .bool x.f3) (bi (j := 2) (v := .bool x.f2) (bi (j := 1) (v := .int .i64 x.f1) (bi (j := 0) (v := .int .i64 x.f0) (jo HB.out HBX.out) HGE.out) HGE.out) HGE.out) HGE.out)
      have hO1 := a_ (Kd.bV (p := ⟨A1, 3, none⟩) (Kd.bV (p := ⟨A1, 2, none⟩) (Kd.bV (p := ⟨A1, 1, none⟩) (Kd.bV (p := ⟨A1, 0, none⟩) (Kd.dN (Kd.jL HO.out A1 (Nat.le_of_eq HG.out.symm)) HBX.out) (fun _ hk => hk.2) (.int .i64 x.f0)) (fun _ hk => hk.2) (.int .i64 x.f1)) (fun _ hk => hk.2) (.bool x.f2)) (fun _ hk => hk.2) (.bool x.f3))
      have hK1 := a_ (fP (fP (fP (fP BK.out 0 (.int .i64 x.f0) rfl) 1 (.int .i64 x.f1) rfl) 2 (.bool x.f2) rfl) 3 (.bool x.f3) rfl)
      clear HO HB HBX HG BK hcz0 hcz1 hcz2 hcz3 hfz0 hfz1 hfz2 hfz3 hx0 hx1 hx2 hx3
      generalize (((A4.setCell ⟨A1, 0, none⟩ (.int .i64 x.f0)).setCell ⟨A1, 1, none⟩ (.int .i64 x.f1)).setCell ⟨A1, 2, none⟩ (.bool x.f2)).setCell ⟨A1, 3, none⟩ (.bool x.f3) = A3 at hB1 hO1 hK1 ⊢
      have hcz0 : A3.cell? ⟨A1, 0, none⟩ = some (.int .i64 x.f0) := (ai hK1.out 0).trans rfl
      have hcz1 : A3.cell? ⟨A1, 1, none⟩ = some (.int .i64 x.f1) := (ai hK1.out 1).trans rfl
      have hcz2 : A3.cell? ⟨A1, 2, none⟩ = some (.bool x.f2) := (ai hK1.out 2).trans rfl
      have hcz3 : A3.cell? ⟨A1, 3, none⟩ = some (.bool x.f3) := (ai hK1.out 3).trans rfl
      have hfz0 := bG hK1.out 0
      have hfz1 := bG hK1.out 1
      have hfz2 := bG hK1.out 2
      have hfz3 := bG hK1.out 3
     ·go_upto_region 9 with (fail)
      have hB2 := a_ (bi (j := 2) (v := .bool !x.f2) hB1.out HGE.out)
      have hO2 := a_ (Kd.bV (p := ⟨A1, 2, none⟩) (Kd.ae (ok' := fun k_ => k_ ≠ A1) hO1.out (fun _ hk => hk.2)) (fun _ hk => hk) (.bool !x.f2))
      have hK2 := a_ (fP hK1.out 2 (.bool !x.f2) rfl)
      clear hB1 hO1 hK1 hcz0 hcz1 hcz2 hcz3 hfz0 hfz1 hfz2 hfz3
      generalize A3.setCell ⟨A1, 2, none⟩ (.bool !x.f2) = A2 at hB2 hO2 hK2 ⊢
      have hM := a_ (fun w base ok => HC.out w base ok x)
      clear HC
      simp only [if_true, if_false, Bool.false_eq_true] at hM
      obtain ⟨y, hy⟩ : ∃ y : S64, dV.jB false x = y := ⟨_, rfl⟩
      obtain ⟨b, hb⟩ : ∃ b : Bool, (!x.f2) = b := ⟨_, rfl⟩
      rw [hy] at hM HT
      rw [hb] at hM hK2
      clear hy hb
      have hcz0 : A2.cell? ⟨A1, 0, none⟩ = some (.int .i64 x.f0) := (ai hK2.out 0).trans rfl
      have hcz1 : A2.cell? ⟨A1, 1, none⟩ = some (.int .i64 x.f1) := (ai hK2.out 1).trans rfl
      have hcz2 : A2.cell? ⟨A1, 2, none⟩ = some (.bool b) := (ai hK2.out 2).trans rfl
      have hcz3 : A2.cell? ⟨A1, 3, none⟩ = some (.bool x.f3) := (ai hK2.out 3).trans rfl
      go_wp2_with ((with_reducible refine bF (b := .append) (xs := #[.tmp 29, .tmp 31]) rfl ?_); at_builtin; refine Kd.fH k64 (w0 := w) w.heap.size rfl (.tmp 29) (.tmp 31) 61 64 (.agg #[(.int .i64 0), (.int .i64 0), (.bool false), (.bool false)]) 24 rfl Tryz.underlying61 lN rfl (by decide) (by omega) u5 ((l0.reverse.take j).map (dV.jB false)) y [.int .i64 x.f0, .int .i64 x.f1, .bool b, .bool x.f3] (fun k_ => k_ ≠ A1) (fun _ => False) rfl (by first | (go_simp; done) | (go_simp; rfl)) ?aP (fun _ hk => hk.elim) ?aF ?aO ?aB ?aS ?aL ?_; (case aP => exact hM.out _ _ _); (case aB => first | exact hB2.out | exact aW hB2.out _); (case aF => first | exact (fun k_ hk => Kd.lg hK2.out k_ hk) | exact (fun k_ hk => Kd.lg hK2.out k_ (Nat.le_trans (by simp) hk))); (case aO => first | exact hO2.out | exact Kd.aC hO2.out _); (case aS => first | exact af hB2.out | exact af (aW hB2.out _)); (case aL => have := HL2.out; have := HL.out; have := HM.out; omega); intro v13 A8 ho hb hg hat; have A6 := a_ ho; have HB3 := a_ hb; clear ho hb hg hat)
      go_roundg k1
      case measure => omega
      case rel => exact ⟨_, j + 1, rfl, ⟨by have := HI1.out; have := HM.out; have := A5.out; omega, by have := HM.out; omega, by have := A5.out; omega⟩, ⟨by rw [HT.out]; exact Kd.ae A6.out (fun _ _ => trivial)⟩, HB3⟩
     ·go_upto_region 9 with (fail)
      have hB2 := a_ (bi (j := 3) (v := .bool !x.f3) hB1.out HGE.out)
      have hO2 := a_ (Kd.bV (p := ⟨A1, 3, none⟩) (Kd.ae (ok' := fun k_ => k_ ≠ A1) hO1.out (fun _ hk => hk.2)) (fun _ hk => hk) (.bool !x.f3))
      have hK2 := a_ (fP hK1.out 3 (.bool !x.f3) rfl)
      clear hB1 hO1 hK1 hcz0 hcz1 hcz2 hcz3 hfz0 hfz1 hfz2 hfz3
      generalize A3.setCell ⟨A1, 3, none⟩ (.bool !x.f3) = A2 at hB2 hO2 hK2 ⊢
      have hM := a_ (fun w base ok => HC.out w base ok x)
      clear HC
      simp only [if_true, if_false, Bool.false_eq_true] at hM
      obtain ⟨y, hy⟩ : ∃ y : S64, dV.jB true x = y := ⟨_, rfl⟩
      obtain ⟨b, hb⟩ : ∃ b : Bool, (!x.f3) = b := ⟨_, rfl⟩
      rw [hy] at hM HT
      rw [hb] at hM hK2
      clear hy hb
      have hcz0 : A2.cell? ⟨A1, 0, none⟩ = some (.int .i64 x.f0) := (ai hK2.out 0).trans rfl
      have hcz1 : A2.cell? ⟨A1, 1, none⟩ = some (.int .i64 x.f1) := (ai hK2.out 1).trans rfl
      have hcz2 : A2.cell? ⟨A1, 2, none⟩ = some (.bool x.f2) := (ai hK2.out 2).trans rfl
      have hcz3 : A2.cell? ⟨A1, 3, none⟩ = some (.bool b) := (ai hK2.out 3).trans rfl
      go_wp2_with ((with_reducible refine bF (b := .append) (xs := #[.tmp 29, .tmp 31]) rfl ?_); at_builtin; refine Kd.fH k64 (w0 := w) w.heap.size rfl (.tmp 29) (.tmp 31) 61 64 (.agg #[(.int .i64 0), (.int .i64 0), (.bool false), (.bool false)]) 24 rfl Tryz.underlying61 lN rfl (by decide) (by omega) u5 ((l0.reverse.take j).map (dV.jB true)) y [.int .i64 x.f0, .int .i64 x.f1, .bool x.f2, .bool b] (fun k_ => k_ ≠ A1) (fun _ => False) rfl (by first | (go_simp; done) | (go_simp; rfl)) ?aP (fun _ hk => hk.elim) ?aF ?aO ?aB ?aS ?aL ?_; (case aP => exact hM.out _ _ _); (case aB => first | exact hB2.out | exact aW hB2.out _); (case aF => first | exact (fun k_ hk => Kd.lg hK2.out k_ hk) | exact (fun k_ hk => Kd.lg hK2.out k_ (Nat.le_trans (by simp) hk))); (case aO => first | exact hO2.out | exact Kd.aC hO2.out _); (case aS => first | exact af hB2.out | exact af (aW hB2.out _)); (case aL => have := HL2.out; have := HL.out; have := HM.out; omega); intro v13 A8 ho hb hg hat; have A6 := a_ ho; have HB3 := a_ hb; clear ho hb hg hat)
      go_roundg k1
      case measure => omega
      case rel => exact ⟨_, j + 1, rfl, ⟨by have := HI1.out; have := HM.out; have := A5.out; omega, by have := HM.out; omega, by have := A5.out; omega⟩, ⟨by rw [HT.out]; exact Kd.ae A6.out (fun _ _ => trivial)⟩, HB3⟩
 ·rw [if_neg hl] at h; cases h
def jN (H n : Nat) (second opposite : Bool) : Nat := (if opposite = true then H - 1 - n else n) + (if second = true then H else 0)
def sV (l : List (List (List S64))) (across : Bool) (H W x y : Nat) (second opposite : Bool) : Option (List S64) :=
 if (if across = true then jN H y second opposite else y) < l.length then (if (if across = true then x else jN W x second opposite) < (l.getD (if across = true then jN H y second opposite else y) []).length then some ((l.getD (if across = true then jN H y second opposite else y) []).getD (if across = true then x else jN W x second opposite) []) else none) else none
theorem Cz {w : World} {A : Option Addr} {n : Nat} {xs : List (List S64)} (h : Kd.C (Kd.slice 64 k64) w A n xs) (i : Nat) (h1 : i < n) : ∃ ad A0 c0, A = some ad ∧ w.cell? (ad.add i) = some (.slice A0 (xs.getD i []).length c0) ∧ (xs.getD i []).length ≤ c0 ∧ k64.C w A0 (xs.getD i []).length (xs.getD i []) := by
 obtain ⟨ad, c, e, _, hK, hc0⟩ := Kd.sG h ([] : List S64) (i : Int) (by omega) (by omega)
 have hc : ∀ j u, c[j]? = some u → w.cell? (ad.add (i * 1 + j)) = some u := hc0
 obtain ⟨A0, c0, rfl, l0, g0⟩ := hK
 exact ⟨ad, A0, c0, e, by have hq := hc 0 _ rfl; rw [Nat.mul_one, Nat.add_zero] at hq; exact hq, l0, g0⟩
theorem Am {w : World} {A : Option Addr} {n : Nat} {xs : List (List (List S64))} (h : Kd.C (Kd.slice 61 (Kd.slice 64 k64)) w A n xs) (i : Nat) (h1 : i < n) : ∃ ad A0 c0, A = some ad ∧ w.cell? (ad.add i) = some (.slice A0 (xs.getD i []).length c0) ∧ (xs.getD i []).length ≤ c0 ∧ (Kd.slice 64 k64).C w A0 (xs.getD i []).length (xs.getD i []) := by
 obtain ⟨ad, c, e, _, hK, hc0⟩ := Kd.sG h ([] : List (List S64)) (i : Int) (by omega) (by omega)
 have hc : ∀ j u, c[j]? = some u → w.cell? (ad.add (i * 1 + j)) = some u := hc0
 obtain ⟨A0, c0, rfl, l0, g0⟩ := hK
 exact ⟨ad, A0, c0, e, by have hq := hc 0 _ rfl; rw [Nat.mul_one, Nat.add_zero] at hq; exact hq, l0, g0⟩
def uK (bA bH bW bR : Nat) (across : Bool) (H W : Nat) (A : Option Addr) (c : Nat) (l : List (List (List S64))) (w : World) : Prop :=
 w.cell? ⟨bA, 0, none⟩ = some (.bool across) ∧ w.cell? ⟨bH, 0, none⟩ = some (.int .i64 (H : Int)) ∧ w.cell? ⟨bW, 0, none⟩ = some (.int .i64 (W : Int)) ∧ w.cell? ⟨bR, 0, none⟩ = some (.slice A l.length c) ∧ Kd.C (Kd.slice 61 (Kd.slice 64 k64)) w A l.length l ∧ l.length ≤ c
def Ck (w : World) (r : List S64) (e : Ending) (w' : World) : Prop := (∃ A0 c0, e = .returned (.slice A0 r.length c0) ∧ r.length ≤ c0 ∧ k64.C w A0 r.length r) ∧ w' = w
theorem Ap (bA bH bW bR : Nat) (across : Bool) (H W : Nat) (A : Option Addr) (c : Nat) (l : List (List (List S64))) (x y : Nat) (second opposite : Bool) (r : List S64) (w : World) (hH : H ≤ 1000) (hW : W ≤ 1000) (hx : x < W) (hy : y < H) (hI : uK bA bH bW bR across H W A c l w) (h : sV l across H W x y second opposite = some r) :
  Calls Tryz.prog 94 #[.int .i64 (x : Int), .int .i64 (y : Int), .bool second, .bool opposite, .pointer (some ⟨bA, 0, none⟩), .pointer (some ⟨bH, 0, none⟩), .pointer (some ⟨bW, 0, none⟩), .pointer (some ⟨bR, 0, none⟩)] w (Ck w r) := by
 obtain ⟨h1, h2, h3, h4, h5, h6⟩ := hI
 unfold sV at h
 obtain ⟨Y, hY⟩ : ∃ Y : Nat, (if across = true then jN H y second opposite else y) = Y := ⟨_, rfl⟩
 obtain ⟨X, hX⟩ : ∃ X : Nat, (if across = true then x else jN W x second opposite) = X := ⟨_, rfl⟩
 rw [hY, hX] at h
 by_cases c1 : Y < l.length
 ·rw [if_pos c1] at h
  by_cases c2 : X < (l.getD Y []).length
  ·rw [if_pos c2] at h
   injection h with h
   obtain ⟨ad, A1, k1, rfl, hc1, hl1, hi1⟩ := Am h5 Y c1
   obtain ⟨A3, A2, k2, rfl, hc2, hl2, hi2⟩ := Cz hi1 X c2
   rw [h] at hc2 hl2 hi2
   clear h
   have HL := a_ hl2
   have HI := a_ hi2
   obtain ⟨n1, hn1⟩ : ∃ n1 : Nat, l.length = n1 := ⟨_, rfl⟩
   obtain ⟨n2, hn2⟩ : ∃ n2 : Nat, (l.getD Y []).length = n2 := ⟨_, rfl⟩
   obtain ⟨n3, hn3⟩ : ∃ n3 : Nat, r.length = n3 := ⟨_, rfl⟩
   rw [hn1] at h4 c1
   rw [hn2] at hc1 c2
   rw [hn3] at hc2
   have d1 : decide (0 ≤ (Y : Int)) = true := decide_eq_true (by omega)
   have d2 : decide ((Y : Int) < (n1 : Int)) = true := decide_eq_true (by omega)
   have d2n : decide (Y < n1) = true := decide_eq_true c1
   have d3 : decide (0 ≤ (X : Int)) = true := decide_eq_true (by omega)
   have d4 : decide ((X : Int) < (n2 : Int)) = true := decide_eq_true (by omega)
   have d4n : decide (X < n2) = true := decide_eq_true c2
   unfold jN at hY hX
   have g1 := eq_true c1
   have g2 := eq_true c2
   have g3 := eq_true (show (Y : Int) < (n1 : Int) by omega)
   have g4 := eq_true (show (X : Int) < (n2 : Int) by omega)
   have HN := a_ hn3
   clear hl1 hi1 hl2 hi2 h5 hn1 hn2 hn3 c1 c2 h6
   obtain ⟨M, hM⟩ : ∃ M : Nat, (if across = true then H else W) = M := ⟨_, rfl⟩
   obtain ⟨p, hp⟩ : ∃ p : Nat, (if across = true then y else x) = p := ⟨_, rfl⟩
   obtain ⟨q, hq⟩ : ∃ q : Nat, (if opposite = true then M - 1 - p else p) = q := ⟨_, rfl⟩
   have hpM : p < M ∧ M ≤ 1000 := by rw [← hp, ← hM]; cases across <;> simp <;> omega
   obtain ⟨M1, hM1⟩ : ∃ M1 : Nat, M = M1 + 1 := ⟨M - 1, by omega⟩
   have hY' : (if across = true then (if second = true then q + M else q) else y) = Y := by rw [← hY, ← hq, ← hp, ← hM]; cases across <;> cases second <;> cases opposite <;> simp
   have hX' : (if across = true then x else (if second = true then q + M else q)) = X := by rw [← hX, ← hq, ← hp, ← hM]; cases across <;> cases second <;> cases opposite <;> simp
   have e1 : wrap64 ((M : Int) - 1) = (M1 : Int) := by unfold wrap64; omega
   have e2 : opposite = true → wrap64 ((M1 : Int) - (p : Int)) = (q : Int) := by intro ho; rw [if_pos ho] at hq; unfold wrap64; omega
   have e3 : wrap64 ((q : Int) + (M : Int)) = ((q + M : Nat) : Int) := by have : q ≤ 1000 := by (rw [← hq]; split <;> omega)
                                                                          unfold wrap64; omega
   have f1 : IntKind.i64.wrap ((M : Int) - 1) = (M1 : Int) := (eU _).trans e1
   have f2 : opposite = true → IntKind.i64.wrap ((M1 : Int) - (p : Int)) = (q : Int) := fun ho => (eU _).trans (e2 ho)
   have f3 : IntKind.i64.wrap ((q : Int) + (M : Int)) = ((q + M : Nat) : Int) := (eU _).trans e3
   clear hpM hM1 hH hW hx hy hY hX
   have HI2 := HI
   cases across
   ·skip
    simp only [if_false, Bool.false_eq_true] at hM hp hY' hX'
    subst hM hp
    subst hY'
    cases opposite
    ·skip
     clear e2 f2 e1 f1
     simp only [if_false, Bool.false_eq_true] at hq
     subst hq
     cases second
     ·skip
      simp only [if_false, Bool.false_eq_true] at hX'
      subst hX'
      clear e3 f3
      go_enter Tryz.func94, Tryz.ntmps94
      go_wp2
      go_ret
      exact ⟨⟨_, _, by rw [HN.out]; rfl, HL.out, HI.out⟩, rfl⟩
     ·skip
      simp only [if_true] at hX'
      rw [hX'] at e3 f3
      clear hX'
      go_enter Tryz.func94, Tryz.ntmps94
      go_wp2
      go_ret
      exact ⟨⟨_, _, by rw [HN.out]; rfl, HL.out, HI.out⟩, rfl⟩
    ·skip
     have e2 := e2 rfl
     have f2 := f2 rfl
     clear hq
     cases second
     ·skip
      simp only [if_false, Bool.false_eq_true] at hX'
      subst hX'
      clear e3 f3
      go_enter Tryz.func94, Tryz.ntmps94
      go_wp2
      go_ret
      exact ⟨⟨_, _, by rw [HN.out]; rfl, HL.out, HI.out⟩, rfl⟩
     ·skip
      simp only [if_true] at hX'
      rw [hX'] at e3 f3
      clear hX'
      go_enter Tryz.func94, Tryz.ntmps94
      go_wp2
      go_ret
      exact ⟨⟨_, _, by rw [HN.out]; rfl, HL.out, HI.out⟩, rfl⟩
   ·skip
    simp only [if_true] at hM hp hY' hX'
    subst hM hp
    subst hX'
    cases opposite
    ·skip
     clear e2 f2 e1 f1
     simp only [if_false, Bool.false_eq_true] at hq
     subst hq
     cases second
     ·skip
      simp only [if_false, Bool.false_eq_true] at hY'
      subst hY'
      clear e3 f3
      go_enter Tryz.func94, Tryz.ntmps94
      go_wp2
      go_ret
      exact ⟨⟨_, _, by rw [HN.out]; rfl, HL.out, HI.out⟩, rfl⟩
     ·skip
      simp only [if_true] at hY'
      rw [hY'] at e3 f3
      clear hY'
      go_enter Tryz.func94, Tryz.ntmps94
      go_wp2
      go_ret
      exact ⟨⟨_, _, by rw [HN.out]; rfl, HL.out, HI.out⟩, rfl⟩
    ·skip
     have e2 := e2 rfl
     have f2 := f2 rfl
     clear hq
     cases second
     ·skip
      simp only [if_false, Bool.false_eq_true] at hY'
      subst hY'
      clear e3 f3
      go_enter Tryz.func94, Tryz.ntmps94
      go_wp2
      go_ret
      exact ⟨⟨_, _, by rw [HN.out]; rfl, HL.out, HI.out⟩, rfl⟩
     ·skip
      simp only [if_true] at hY'
      rw [hY'] at e3 f3
      clear hY'
      go_enter Tryz.func94, Tryz.ntmps94
      go_wp2
      go_ret
      exact ⟨⟨_, _, by rw [HN.out]; rfl, HL.out, HI.out⟩, rfl⟩
  ·rw [if_neg c2] at h; cases h
 ·rw [if_neg c1] at h; cases h
def hvH (a : Bool) (n : Nat) : Nat := if a = true then n / 2 else n
def hvW (a : Bool) (n : Nat) : Nat := if a = true then n else n / 2
def jM (k : Nat) (l : List (List (List S64))) (a1 a2 : Bool) (H W y x : Nat) : Option (List S64) := (sV l a1 H W x y (!a2) true).bind fun a => (dV.f a a1).bind fun b => (sV l a1 H W x y a2 false).bind fun c => bK.f k [b, c]
def kG (cell : Nat → Option (List S64)) : Nat → Nat → List (List S64) → Option (List (List S64))
 | 0, _, acc => some acc
 | n + 1, x, acc => (cell x).bind fun c => kG cell n (x + 1) (acc ++ [c])
def kV (row : Nat → Option (List (List S64))) : Nat → Nat → List (List (List S64)) → Option (List (List (List S64)))
 | 0, _, acc => some acc
 | n + 1, y, acc => (row y).bind fun c => kV row n (y + 1) (acc ++ [c])
def eB.f (k : Nat) (l0 : List (List (List S64))) (a1 a2 : Bool) : Option (List (List (List S64))) := if 0 < l0.length ∧ l0.length ≤ 1000 ∧ (l0.getD 0 []).length ≤ 1000 then kV (fun y => kG (fun x => jM k l0 a1 a2 (hvH a1 l0.length) (hvW a1 (l0.getD 0 []).length) y x) (hvW a1 (l0.getD 0 []).length) 0 []) (hvH a1 l0.length) 0 [] else none
theorem pX {c c' : Nat → Option (List S64)} (h : ∀ x, LeO (c x) (c' x)) : ∀ n x acc, LeO (kG c n x acc) (kG c' n x acc)
 | 0, _, _ => LeO.refl _
 | n + 1, x, acc => LeO.bind (h x) (fun _ => pX h n _ _)
theorem oF {c c' : Nat → Option (List (List S64))} (h : ∀ x, LeO (c x) (c' x)) : ∀ n x acc, LeO (kV c n x acc) (kV c' n x acc)
 | 0, _, _ => LeO.refl _
 | n + 1, x, acc => LeO.bind (h x) (fun _ => oF h n _ _)
theorem eB.mono : ∀ a0 a1 a2 k, LeO (eB.f k a0 a1 a2) (eB.f (k + 1) a0 a1 a2) := by
 intro a0 a1 a2 k
 unfold eB.f
 refine LeO.ite (oF (fun y => pX (fun x => ?_) _ _ _) _ _ _) (LeO.refl _)
 unfold jM
 exact LeO.bind (LeO.refl _) (fun _ => LeO.bind (LeO.refl _) (fun _ => LeO.bind (LeO.refl _) (fun _ => bK.mono _ _)))
theorem uK.below {bA bH bW bR : Nat} {across : Bool} {H W : Nat} {A : Option Addr} {c : Nat} {l : List (List (List S64))} {w w' : World} (h : uK bA bH bW bR across H W A c l w) (hb : Below w.heap.size w w') : uK bA bH bW bR across H W A c l w' := by
 obtain ⟨h1, h2, h3, h4, h5, h6⟩ := h
 exact ⟨(hb.cell (World.block_lt_of_cell? _ _ h1)).trans h1, (hb.cell (World.block_lt_of_cell? _ _ h2)).trans h2, (hb.cell (World.block_lt_of_cell? _ _ h3)).trans h3, (hb.cell (World.block_lt_of_cell? _ _ h4)).trans h4, Kd.bE h5 hb, h6⟩
theorem zM {w : World} {A1 A2 : Option Addr} {c1 c2 : Nat} {b c : List S64} (h1 : b.length ≤ c1) (h2 : Kd.C k64 w A1 b.length b) (h3 : c.length ≤ c2) (h4 : Kd.C k64 w A2 c.length c) : Kd.C (Kd.slice 64 k64) (w.alloc (.cells #[.slice A1 b.length c1, .slice A2 c.length c2] 61)) (some ⟨w.heap.size, 0, none⟩) [b, c].length [b, c] := by
 have hb : Below w.heap.size w (w.alloc (.cells #[.slice A1 b.length c1, .slice A2 c.length c2] 61)) := aW (Below.refl _ _) _
 have hk := heap_alloc_new w (.cells #[.slice A1 b.length c1, .slice A2 c.length c2] 61)
 refine ⟨rfl, by show 2 ≤ 9223372036854775807; decide, fun _ => ⟨_, rfl, fun j p hj => ?_⟩⟩
 have hj2 : j = 0 ∧ p = b ∨ j = 1 ∧ p = c := by
  rcases j with _ | _ | j
  ·left; simpa using hj.symm
  ·right; simpa using hj.symm
  ·simp at hj
 rcases hj2 with ⟨rfl, rfl⟩ | ⟨rfl, rfl⟩
 ·refine ⟨[.slice A1 p.length c1], rfl, ⟨A1, c1, rfl, h1, Kd.bE h2 hb⟩, fun i u hu => ?_⟩
  obtain rfl : i = 0 := by rcases i with _ | i; rfl; simp at hu
  obtain rfl : Value.slice A1 p.length c1 = u := by simpa using hu
  exact (ai hk 0).trans rfl
 ·refine ⟨[.slice A2 p.length c2], rfl, ⟨A2, c2, rfl, h3, Kd.bE h4 hb⟩, fun i u hu => ?_⟩
  obtain rfl : i = 0 := by rcases i with _ | i; rfl; simp at hu
  obtain rfl : Value.slice A2 p.length c2 = u := by simpa using hu
  exact (ai hk 1).trans rfl
theorem yJ (w : World) (c1 c2 : Array Value) (t1 t2 : TypeId) : ((w.alloc (.cells c1 t1)).alloc (.cells c2 t2)).drew.heap[w.heap.size]? = some (.cells c1 t1 (0, 0)) := (Lib.alloc_old (w.alloc (.cells c1 t1)) (.cells c2 t2) w.heap.size (by simp)).trans (heap_alloc_new _ _)
theorem yK (w : World) (c1 c2 : Array Value) (t1 t2 : TypeId) : ((w.alloc (.cells c1 t1)).alloc (.cells c2 t2)).drew.heap[w.heap.size + 1]? = some (.cells c2 t2 (0, 0)) := by
 have := heap_alloc_new (w.alloc (.cells c1 t1)) (.cells c2 t2)
 rw [show (w.alloc (.cells c1 t1)).heap.size = w.heap.size + 1 by simp] at this
 exact this
theorem yL (w : World) (o1 o2 : Obj) : Below w.heap.size w ((w.alloc o1).alloc o2).drew := jV (aW (aW (Below.refl _ _) _) _)
theorem wX {P : Program} {ops : Array Oper} {Q : Exit → Act → World → Prop} {oi : Oper} {N : Option Tmp} {a : Act} {w : World} {K : Act → World → Prop} {f : FuncId} {fn : Func} {as1 : Array Operand} {ts : Array TypeId} {cap : Array Value} (t : Tmp) (hf : P.funcs[f]? = some fn) (hname : (fn.name == "runtime.NumGoroutine") = false) (hb : fn.body.isSome = true) (args as0 : Array Value)
  (hw : Region.wanted oi (yielded ops a.tmps) = true) (hN : oi.dst = N) (hop : oi.op = .call { callee := .value (.tmp t), args := as1, argTypes := ts }) (ht : a.eval (.tmp t) = .func (.func f) #[] cap) (has : as1.map a.eval = as0) (hargs : #[] ++ as0 ++ cap = args)
  (h : Calls P f args w fun e w' => ∃ v, e = .returned v ∧ K (a.put N v) w') : if Region.wanted oi (yielded ops a.tmps) = true then Oper.wp P oi a w K Q else K (a.put N undef) w := by
 refine call_ f args hw hN ?_ h
 have he := qF hf hname hb args w
 unfold execOp
 simp [hop, resolve, Deferred.ofValue, invoke, ht, has]
 simp only [Array.empty_append] at hargs
 rw [hargs]
 exact he
theorem eB.calls (k : Nat) (A0 : Option Addr) (c0 : Nat) (l0 : List (List (List S64))) (a1 a2 : Bool) (r : List (List (List S64))) (w : World) (hr0 : Kd.C (Kd.slice 61 (Kd.slice 64 k64)) w A0 l0.length l0) (hc0 : l0.length ≤ c0) (h : eB.f k l0 a1 a2 = some r) :
  Calls Tryz.prog 81 #[.slice A0 l0.length c0, .bool a1, .bool a2] w fun e w' => ∃ v0_ : Value, e = .returned (v0_) ∧ Kd.R (Kd.slice 61 (Kd.slice 64 k64)) 96 w' w.heap.size (fun _ => True) v0_ r ∧ Below w.heap.size w w' := by
 unfold eB.f at h
 by_cases hp : 0 < l0.length ∧ l0.length ≤ 1000 ∧ (l0.getD 0 []).length ≤ 1000
 ·rw [if_pos hp] at h
  obtain ⟨hp1, hp2, hp3⟩ := hp
  obtain ⟨ad, A1, c1, rfl, hx1, hl1, hi1⟩ := Am hr0 0 hp1
  have HF := a_ h
  have HR := a_ hr0
  have HC := a_ hc0
  obtain ⟨n, hn⟩ : ∃ n : Nat, l0.length = n := ⟨_, rfl⟩
  obtain ⟨m, hm⟩ : ∃ m : Nat, (l0.getD 0 []).length = m := ⟨_, rfl⟩
  rw [hm] at hp3 hx1 HF
  rw [hn] at hp1 hp2 HF ⊢
  have HN := a_ hn
  have HP := a_ (show 0 < n ∧ n ≤ 1000 ∧ m ≤ 1000 from ⟨hp1, hp2, hp3⟩)
  have hb2 := a_ (show Below w.heap.size w ((w.alloc (.cells #[.slice (some ad) n c0] 95)).alloc (.cells #[.bool a1] 4)) from aW (aW (Below.refl _ _) _) _)
  have hkR := a_ (show ((w.alloc (.cells #[.slice (some ad) n c0] 95)).alloc (.cells #[.bool a1] 4)).heap[w.heap.size]? = some (.cells #[.slice (some ad) n c0] 95 (0, 0)) from (Lib.alloc_old _ _ _ (by simp)).trans (heap_alloc_new _ _))
  have hkA := a_ (show ((w.alloc (.cells #[.slice (some ad) n c0] 95)).alloc (.cells #[.bool a1] 4)).heap[w.heap.size + 1]? = some (.cells #[.bool a1] 4 (0, 0)) from by
   have := heap_alloc_new (w.alloc (.cells #[.slice (some ad) n c0] 95)) (.cells #[.bool a1] 4)
   simpa using this)
  have hz2 := a_ (show ((w.alloc (.cells #[.slice (some ad) n c0] 95)).alloc (.cells #[.bool a1] 4)).heap.size = w.heap.size + 2 by simp)
  have g1 := eq_true hp1
  have g2 := eq_true (show (0 : Int) < (n : Int) by omega)
  have hmf : ∀ (fn : Fn) (first cap : Array Value) (w : World), (Instr.makeFunc fn first cap).run Tryz.prog w = .ok (.func fn first cap) w := fun _ _ _ _ => rfl
  clear hr0 hc0 hn hm hl1 hi1 hp1 hp2 hp3 h
  go_enter Tryz.func81, Tryz.ntmps81
  go_upto_region 1 with (fail)
  rw [show ad.add 0 = ad by simp [Addr.add]] at hx1
  have hx2 := (hb2.out.cell (World.block_lt_of_cell? _ _ hx1)).trans hx1
  obtain ⟨bR, hbR⟩ : ∃ bR : Nat, w.heap.size = bR := ⟨_, rfl⟩
  have HbR := a_ hbR
  rw [hbR] at hkR hkA hz2 ⊢
  clear hbR hx1
  generalize (w.alloc (.cells #[.slice (some ad) n c0] 95)).alloc (.cells #[.bool a1] 4) = w2 at hb2 hkR hkA hx2 hz2 ⊢
  have hcR : w2.cell? ⟨bR, 0, none⟩ = some (.slice (some ad) n c0) := (ai hkR.out 0).trans rfl
  have hcA : w2.cell? ⟨bR + 1, 0, none⟩ = some (.bool a1) := (ai hkA.out 0).trans rfl
  go_cut [7, 8] (fun v7 v8 wc => ∃ bH bW : Nat, v7 = .pointer (some ⟨bH, 0, none⟩) ∧ v8 = .pointer (some ⟨bW, 0, none⟩) ∧ ah (wc.heap[bH]? = some (.cells #[.int .i64 (n : Int)] 3 (0, 0))) ∧ ah (wc.heap[bW]? = some (.cells #[.int .i64 (m : Int)] 3 (0, 0))) ∧ ah (bH ≠ bW ∧ bR + 1 < bH ∧ bR + 1 < bW) ∧ ah (Below w2.heap.size w2 wc))
  case first =>
   go_region_held3 (fun w' => w'.cell? ⟨bR, 0, none⟩ = some (.slice (some ad) n c0) ∧ w'.cell? ad = some (.slice A1 m c1)) (go_keep) (fail)
   all_goals
    go_wp2_with fail
    go_meet
    first
     | exact ⟨w2.heap.size + 1, w2.heap.size, rfl, rfl, ⟨yK _ _ _ _ _⟩, ⟨yJ _ _ _ _ _⟩, ⟨by have := hz2.out; omega⟩, ⟨yL _ _ _⟩⟩
     | exact ⟨w2.heap.size, w2.heap.size + 1, rfl, rfl, ⟨yJ _ _ _ _ _⟩, ⟨yK _ _ _ _ _⟩, ⟨by have := hz2.out; omega⟩, ⟨yL _ _ _⟩⟩
  case rest =>
   obtain ⟨bH, bW, rfl, rfl, hkH, hkW, hne, hb3⟩ := hcut
   have hkR3 := a_ ((hb3.out.block _ (fF hkR.out)).trans hkR.out)
   have hkA3 := a_ ((hb3.out.block _ (fF hkA.out)).trans hkA.out)
   have hB3 := a_ (jo hb2.out hb3.out)
   clear hb2 hb3 hkR hkA hcR hcA hx2 g1 g2
   have hcR : wc.cell? ⟨bR, 0, none⟩ = some (.slice (some ad) n c0) := (ai hkR3.out 0).trans rfl
   have hcA : wc.cell? ⟨bR + 1, 0, none⟩ = some (.bool a1) := (ai hkA3.out 0).trans rfl
   have hcH : wc.cell? ⟨bH, 0, none⟩ = some (.int .i64 (n : Int)) := (ai hkH.out 0).trans rfl
   have hcW : wc.cell? ⟨bW, 0, none⟩ = some (.int .i64 (m : Int)) := (ai hkW.out 0).trans rfl
   have hfH := bG hkH.out 0
   have hfW := bG hkW.out 0
   have e1 : wrap64 (Int.tdiv (n : Int) 2) = ((n / 2 : Nat) : Int) := by have := HP.out; rw [Int.tdiv_eq_ediv_of_nonneg (by omega)]; unfold wrap64; omega
   have e2 : wrap64 (Int.tdiv (m : Int) 2) = ((m / 2 : Nat) : Int) := by have := HP.out; rw [Int.tdiv_eq_ediv_of_nonneg (by omega)]; unfold wrap64; omega
   go_upto_if 20 with (fail)
   go_cut [] (fun wc => ah (uK (bR + 1) bH bW bR a1 (hvH a1 n) (hvW a1 m) (some ad) c0 l0 wc) ∧ ah (Below w.heap.size w wc))
   case first =>
    have e3 : wrap64 ((n : Int) / 2) = ((n / 2 : Nat) : Int) := by have := HP.out; unfold wrap64; omega
    have e4 : wrap64 ((m : Int) / 2) = ((m / 2 : Nat) : Int) := by have := HP.out; unfold wrap64; omega
    have E3 := a_ e3
    have E4 := a_ e4
    clear e3 e4
    cases a1
    ·go_wp2_with fail
     go_meet
     have hB4 := a_ (bi (j := 0) (v := .int .i64 (wrap64 ((m : Int) / 2))) hB3.out (g := bW) (by have := hne.out; have := HbR.out; omega))
     refine ⟨⟨(ai (gu hkA3.out (by have := hne.out; simp only [ne_eq]; omega) _) 0).trans rfl, (ai (gu hkH.out (by have := hne.out; simp only [ne_eq]; omega) _) 0).trans rfl, ?_, ?_, Kd.bE HR.out hB4.out, HC.out⟩, hB4⟩
     ·rw [E4.out]
      exact (ai (fP hkW.out 0 _ rfl) 0).trans rfl
     ·rw [HN.out]
      exact (ai (gu hkR3.out (by have := hne.out; simp only [ne_eq]; omega) _) 0).trans rfl
    ·go_wp2_with fail
     go_meet
     have hB4 := a_ (bi (j := 0) (v := .int .i64 (wrap64 ((n : Int) / 2))) hB3.out (g := bH) (by have := hne.out; have := HbR.out; omega))
     refine ⟨⟨(ai (gu hkA3.out (by have := hne.out; simp only [ne_eq]; omega) _) 0).trans rfl, ?_, (ai (gu hkW.out (by have := hne.out; simp only [ne_eq]; omega) _) 0).trans rfl, ?_, Kd.bE HR.out hB4.out, HC.out⟩, hB4⟩
     ·rw [E3.out]
      exact (ai (fP hkH.out 0 _ rfl) 0).trans rfl
     ·rw [HN.out]
      exact (ai (gu hkR3.out (by have := hne.out; simp only [ne_eq]; omega) _) 0).trans rfl
   case rest =>
    obtain ⟨HI, HB⟩ := hcut
    clear hcR hcA hcH hcW hfH hfW e1 e2 hkH hkW hne hkR3 hkA3 hB3 hz2
    have HHW := a_ (show hvH a1 n ≤ 1000 ∧ hvW a1 m ≤ 1000 from by have := HP.out; unfold hvH hvW; constructor <;> split <;> omega)
    clear HP
    obtain ⟨H, hH⟩ : ∃ H : Nat, hvH a1 n = H := ⟨_, rfl⟩
    obtain ⟨V, hV⟩ : ∃ V : Nat, hvW a1 m = V := ⟨_, rfl⟩
    rw [hH, hV] at HI HF HHW
    clear hH hV
    have HBR := a_ (Below.refl wc.heap.size wc)
    go_wp2_with ((with_reducible refine bf (N := 26) rfl ?_); refine Kd.fU (Kd.slice 61 (Kd.slice 64 k64)) _ 96 ?hg (N := 26) ?hd (xs := ([] : List (List (List S64)))) (inner := []) (ok := fun _ => True) (okp := fun _ => True) ?hr ?hp (fun _ hk => hk) trivial (Below.refl _ _) (Nat.le_refl _) (by simp) ?_; (case hd => rfl); (case hg => rfl); (case hr => first | (go_simp; done) | (go_simp; rfl)); (case hp => exact (dm.none _ _)); intro A8 w3 ho4 hb hg_ hnew_; have HO := a_ ho4; have HB1 := a_ hb; have HI1 := a_ (HI.out.below hb); have hcH : w3.cell? ⟨bH, 0, none⟩ = some (.int .i64 (H : Int)) := HI1.out.2.1; clear hg_ hnew_ ho4 hb)
    clear hcH
    obtain ⟨C5, c30, A9⟩ := Kd.bg HO.out
    go_loopg [10, 28] (H + 1) (fun kq v10 v28 w' => ∃ (y : Nat) (acc : List (List (List S64))), v28 = .int .i64 (y : Int) ∧ ah (y + kq = H + 1 ∧ y ≤ H ∧ acc.length = y) ∧ ah (kV (fun y => kG (fun x => jM k l0 a1 a2 H V y x) V 0 []) (H - y) y acc = some r) ∧ ah (Kd.R (Kd.slice 61 (Kd.slice 64 k64)) 96 w' wc.heap.size (fun _ => True) v10 acc) ∧ ah (Below wc.heap.size wc w'))
    case atStart => exact ⟨0, [], rfl, ⟨by omega, by omega, rfl⟩, HF, HO, HB1⟩
    case round =>
     clear HF HO HB1 HBR HI1 A9
     obtain ⟨y, acc, rfl, HY, HF, HO, HB1⟩ := hrel
     cases gk with
     | zero => exact absurd HY.out (fun h => by omega)
     | succ k1 =>
      by_cases hy : y = H
      ·have d1 : decide ((y : Int) < (H : Int)) = false := decide_eq_false (by omega)
       have d2 : decide (y < H) = false := decide_eq_false (by omega)
       have HF2 := HF.out
       rw [show H - y = 0 by omega] at HF2
       unfold kV at HF2
       injection HF2 with HF3
       subst HF3
       clear hy HY HF
       go_wp2
       go_ret
       exact ⟨_, rfl, Kd.bu HO.out (af HB.out), HB.out.trans (HB1.out.mono (af HB.out))⟩
      ·have hyH : y < H := by have := HY.out; omega
       have HF2 := HF.out
       rw [show H - y = (H - (y + 1)) + 1 by omega] at HF2
       unfold kV at HF2
       obtain ⟨row, hrow, hf3⟩ := Option.bind_eq_some_iff.1 HF2
       have HROW := a_ hrow
       have HF4 := a_ hf3
       have HYH := a_ hyH
       have d1 : decide ((y : Int) < (H : Int)) = true := decide_eq_true (by omega)
       have d2 : decide (y < H) = true := decide_eq_true hyH
       have e1 : wrap64 ((y : Int) + 1) = ((y + 1 : Nat) : Int) := by have := HHW.out; unfold wrap64; omega
       have f1 : IntKind.i64.wrap ((y : Int) + 1) = ((y + 1 : Nat) : Int) := (eU _).trans e1
       have HIr := a_ (HI.out.below HB1.out)
       clear hy hyH HF HF2 hrow hf3
       go_wp2_with ((with_reducible refine bf (N := 31) rfl ?_); refine Kd.sI (Kd.slice 64 k64) _ 61 ?hg (N := 31) ?hd (xs := ([] : List (List S64))) (inner := []) (ok := fun _ => True) (okp := fun _ => True) ?hr ?hp (fun _ hk => hk) trivial (Below.refl _ _) (Nat.le_refl _) (by simp) ?_; (case hd => rfl); (case hg => rfl); (case hr => first | (go_simp; done) | (go_simp; rfl)); (case hp => exact (dm.none _ _)); intro B0 w7 ho8 hb hg_ hnew_; have A2 := a_ (Kd.bB HO.out (Kd.oV ho8) hb); have HS := a_ (Kd.mP ho8 (af HB1.out)); have HB2 := a_ (jo HB1.out hb); have HI2 := a_ (HIr.out.below hb); have hcW : w7.cell? ⟨bW, 0, none⟩ = some (.int .i64 (V : Int)) := HI2.out.2.2.1; clear hg_ hnew_ ho8 hb)
       obtain ⟨B3, c31, B4⟩ := Kd.lK HS.out
       clear B4 B3 c31
       go_loopg [12, 33] (V + 1) (fun kq v12 v33 w' => ∃ (x : Nat) (ac2 : List (List S64)), v33 = .int .i64 (x : Int) ∧ ah (x + kq = V + 1 ∧ x ≤ V ∧ ac2.length = x) ∧ ah (kG (fun x => jM k l0 a1 a2 H V y x) (V - x) x ac2 = some row) ∧ ah (Kd.R (Kd.slice 61 (Kd.slice 64 k64)) 96 w' wc.heap.size (fun k_ => some k_ ≠ (v12 : Value).ownBlock) u10 acc) ∧ ah (Kd.S (Kd.slice 64 k64) 61 w' wc.heap.size (fun _ => True) v12 ac2) ∧ ah (Below wc.heap.size wc w'))
       case atStart => exact ⟨0, [], rfl, ⟨by omega, by omega, rfl⟩, ⟨HROW.out⟩, ⟨Kd.ae A2.out (fun _ hk => hk.2)⟩, HS, HB2⟩
       case round =>
        clear HROW A2 HS HB2 HI2 hcW HIr HO HB1
        obtain ⟨x, ac2, rfl, HX, HROW, HO, HS, HB1⟩ := hrel
        have HIr := a_ (HI.out.below HB1.out)
        cases gk with
        | zero => exact absurd HX.out (fun h => by omega)
        | succ k2 =>
         by_cases hx : x = V
         ·have d3 : decide ((x : Int) < (V : Int)) = false := decide_eq_false (by omega)
          have d4 : decide (x < V) = false := decide_eq_false (by omega)
          have HR2 := HROW.out
          rw [show V - x = 0 by omega] at HR2
          unfold kG at HR2
          injection HR2 with HR3
          have HE := a_ HR3
          have HLY := a_ (show acc.length ≤ 1000000 by have := HY.out; have := HHW.out; omega)
          clear hx HX HROW HR3
          obtain ⟨Ao, co, eo⟩ := Kd.lK HS.out
          subst eo
          go_wp2_with ((with_reducible refine bF (b := .append) (xs := #[.tmp 55, .tmp 57]) rfl ?_); at_builtin; refine Kd.fH (Kd.slice 61 (Kd.slice 64 k64)) (w0 := wc) wc.heap.size rfl (.tmp 55) (.tmp 57) 95 96 (.slice none 0 0) 24 rfl Tryz.underlying95 pz rfl (by decide) (by omega) u10 acc ac2 [.slice Ao ac2.length co] (fun _ => True) (fun k_ => ((fun _ => True)) k_ ∧ some k_ ≠ (u10 : Value).ownBlock) rfl rfl ?aP (fun _ hk => hk) ?aF ?aO ?aB ?aS ?aL ?_; (case aP => exact Kd.lm (Kd.ae (Kd.gm ((Kd.S_R HS.out)) (Kd.fV HO.out) (by decide)) (fun k_ hk => ⟨trivial, hk.2⟩))); (case aB => exact HB1.out); (case aF => exact (fun _ _ => trivial)); (case aO => exact Kd.ae HO.out (fun _ hk => trivial)); (case aS => exact af HB1.out); (case aL => have := HLY.out; omega); intro B7 C6 ho hb hg hat; have C0 := a_ ho; have HB6 := a_ hb; clear ho hb hg hat)
          go_roundg k1
          case measure => omega
          case rel => exact ⟨y + 1, acc ++ [row], bZ, ⟨by have := HY.out; have := HYH.out; omega, by have := HYH.out; omega, by have := HY.out; rw [List.length_append, List.length_singleton]; omega⟩, HF4, ⟨by rw [← HE.out]; exact C0.out⟩, HB6⟩
         ·have hxV : x < V := by have := HX.out; omega
          have HR2 := HROW.out
          rw [show V - x = (V - (x + 1)) + 1 by omega] at HR2
          unfold kG at HR2
          obtain ⟨cell, hcell, hrow3⟩ := Option.bind_eq_some_iff.1 HR2
          unfold jM at hcell
          obtain ⟨ra, ha, hcell2⟩ := Option.bind_eq_some_iff.1 hcell
          obtain ⟨rb, hb, hcell3⟩ := Option.bind_eq_some_iff.1 hcell2
          obtain ⟨rc, hc, hcell4⟩ := Option.bind_eq_some_iff.1 hcell3
          have HA1 := a_ ha
          have HA2 := a_ hb
          have HA3 := a_ hc
          have HA4 := a_ hcell4
          have HR4 := a_ hrow3
          have HXV := a_ hxV
          have HLX := a_ (show ac2.length ≤ 1000000 by have := HX.out; have := HHW.out; omega)
          have d3 : decide ((x : Int) < (V : Int)) = true := decide_eq_true (by omega)
          have d4 : decide (x < V) = true := decide_eq_true hxV
          have e5 : wrap64 ((x : Int) + 1) = ((x + 1 : Nat) : Int) := by have := HHW.out; unfold wrap64; omega
          have f5 : IntKind.i64.wrap ((x : Int) + 1) = ((x + 1 : Nat) : Int) := (eU _).trans e5
          clear hx hxV HROW HR2 hcell hcell2 hcell3 hcell4 hrow3 ha hb hc
          try go_wp2
          refine gQ (n := 19) (S := fun w' => w'.cell? ⟨bR + 1, 0, none⟩ = some (.bool a1)) (ds := [14, 15, 16, 17]) #[false, false, false, false, false, false, false, false, false, false, false, false, false, false, false, false, false, false, false] (by kernel_rfl) rfl rfl ((aU (Below.refl _ _)).cell (World.block_lt_of_cell? _ _ HIr.out.1) |>.trans HIr.out.1) (fun hHeld => ?_)
          have HI5 := a_ (HIr.out.below (aU (Below.refl _ _)))
          have A2 := a_ (Kd.az HO.out)
          have HS5 := a_ (Kd.gL HS.out)
          have HB5 := a_ (aU HB1.out)
          clear HIr HO HS HB1
          generalize wr.drew = C7 at HI5 A2 HS5 HB5 hHeld ⊢
          refine pv_ 0 (some 36) ?_ (hc := (by kernel_rfl))
          refine pv_ 1 (some 37) ?_ (hc := (by kernel_rfl))
          refine pv_ 2 (some 38) ?_ (hc := (by kernel_rfl))
          refine pv_ 3 (some 39) ?_ (hc := (by kernel_rfl))
          refine pv_ 4 (some 40) ?_ (hc := (by kernel_rfl))
          refine pv_ 5 (some 41) ?_ (hc := (by kernel_rfl))
          refine pv_ 9 (some 45) ?_ (hc := (by kernel_rfl))
          refine pv_ 10 (some 46) ?_ (hc := (by kernel_rfl))
          refine pv_ 11 (some 47) ?_ (hc := (by kernel_rfl))
          refine pv_ 12 (some 48) ?_ (hc := (by kernel_rfl))
          refine qg (i := 7) (N := some 43) (v := ?_) (a' := ?_) #[true, true, true, true, true, true, false, true, false, true, true, true, true, false, false, false, false, false, false] rfl rfl (by kernel_rfl) (fun _ _ _ h => h) (Or.inl ⟨by rfl, ?_⟩) hHeld ?_ ?_
          rotate_left
          ·intro w' s0
           go_simp
           with_reducible rfl
          rotate_left
          ·simp only [Act.put, List.setIfInBounds_toArray, List.set_cons_zero, List.set_cons_succ, eU, gX]
           rfl
          refine on_ (i := 6) (N := some 42) (fun K hK => ?_) (hc := (by kernel_rfl))
          refine wX 37 Tryz.func94 (by kernel_rfl) rfl #[.int .i64 (x : Int), .int .i64 (y : Int), .bool (!a2), .bool true, .pointer (some ⟨bR + 1, 0, none⟩), .pointer (some ⟨bH, 0, none⟩), .pointer (some ⟨bW, 0, none⟩), .pointer (some ⟨bR, 0, none⟩)] #[.int .i64 (x : Int), .int .i64 (y : Int), .bool (!a2), .bool true] (by rfl) rfl rfl (by rfl) qh (by rfl) ?_
          refine (Ap (bR + 1) bH bW bR a1 H V (some ad) c0 l0 x y (!a2) true ra _ HHW.out.1 HHW.out.2 HXV.out HYH.out HI5.out HA1.out).mono ?_
          rintro e w_ ⟨⟨C1, c42, rfl, hl, hC⟩, rfl⟩
          have HL42 := a_ hl
          have A3 := a_ hC
          clear hl hC
          refine ⟨_, rfl, ?_⟩
          refine hK.out _ _ hHeld (fun hHeld => ?_)
          clear hK K
          refine nm_ ?_
          refine on_ (i := 8) (N := some 44) (fun K hK => ?_) (hc := (by kernel_rfl))
          refine jq Tryz.func96 (by kernel_rfl) rfl #[.slice C1 ra.length c42, .bool a1] (by rfl) rfl rfl qh ?_
          with_reducible refine (dV.calls _ _ ra a1 rb _ A3.out HL42.out HA2.out).mono ?_
          rintro e C8 ⟨v44, rfl, ho0, hb⟩
          have HS0_ := (hb.cell (World.block_lt_of_cell? _ _ hHeld)).trans hHeld
          have HI7 := a_ (HI5.out.below hb)
          have A6 := a_ (Kd.dN A2.out hb)
          have HS7 := a_ (Kd.qA HS5.out hb)
          have HB7 := a_ (jo HB5.out hb)
          have HV7 := a_ ho0
          clear HI5 A2 HS5 HB5 hb ho0 A3 HL42
          obtain ⟨C9, c44, C2⟩ := Kd.bg HV7.out
          subst C2
          refine ⟨_, rfl, ?_⟩
          refine hK.out _ _ HS0_ (fun hHeld => ?_)
          clear HS0_
          clear hK K
          refine nm_ ?_
          refine on_ (i := 13) (N := some 49) (fun K hK => ?_) (hc := (by kernel_rfl))
          refine wX 45 Tryz.func94 (by kernel_rfl) rfl #[.int .i64 (x : Int), .int .i64 (y : Int), .bool a2, .bool false, .pointer (some ⟨bR + 1, 0, none⟩), .pointer (some ⟨bH, 0, none⟩), .pointer (some ⟨bW, 0, none⟩), .pointer (some ⟨bR, 0, none⟩)] #[.int .i64 (x : Int), .int .i64 (y : Int), .bool a2, .bool false] (by rfl) rfl rfl (by rfl) qh (by rfl) ?_
          refine (Ap (bR + 1) bH bW bR a1 H V (some ad) c0 l0 x y a2 false rc _ HHW.out.1 HHW.out.2 HXV.out HYH.out HI7.out HA3.out).mono ?_
          rintro e w_ ⟨⟨D0, c49, rfl, hl, hC⟩, rfl⟩
          have HL49 := a_ hl
          have A4 := a_ hC
          clear hl hC
          refine ⟨_, rfl, ?_⟩
          refine hK.out _ _ hHeld (fun hHeld => ?_)
          clear hK K
          refine nm_ ?_
          refine la_ (i := 14) (N := some 50) (fun K hK => ?_) (hc := (by kernel_rfl))
          refine rF (w1 := ?_) (v := ?_) (by rfl) rfl ?_ ?_
          rotate_left 2
          ·go_simp
           constructor
           ·rfl
           ·rfl
          refine hK.out _ _ ?_
          clear hK K
          refine nm_ ?_
          refine la_ (i := 15) (N := some 51) (fun K hK => ?_) (hc := (by kernel_rfl))
          refine jq Tryz.func95 (by kernel_rfl) rfl #[.slice (some ⟨w_.heap.size, 0, none⟩) 2 2] (by rfl) rfl rfl qh ?_
          refine (bK.calls k (some ⟨w_.heap.size, 0, none⟩) 2 [rb, rc] cell _ (zM (Kd.aH HV7.out).2.1 (Kd.aH HV7.out).2.2 HL49.out A4.out) (Nat.le_refl _) HA4.out).mono ?_
          rintro e D1 ⟨v51, rfl, ho0, hb⟩
          have A7 := a_ (Kd.bB (Kd.aC A6.out _) (Kd.bN ho0) hb)
          have HS8 := a_ (Kd.kC (Kd.gI HS7.out _) (Kd.bN ho0) hb)
          have HV8 := a_ (Kd.bu ho0 (af (aW HB7.out _)))
          have HB8 := a_ (jo (aW HB7.out _) hb)
          clear HI7 A6 HS7 HB7 HV7 hb ho0 A4 HL49 hHeld
          obtain ⟨A5, c51, C3⟩ := Kd.bg HV8.out
          subst C3
          refine ⟨_, rfl, ?_⟩
          refine hK.out _ _ ?_
          clear hK K
          refine nm_ ?_
          refine la_ (i := 16) (N := some 52) (fun K hK => ?_) (hc := (by kernel_rfl))
          refine rF (w1 := ?_) (v := ?_) (by rfl) rfl ?_ ?_
          rotate_left 2
          ·go_simp
           constructor
           ·rfl
           ·rfl
          refine hK.out _ _ ?_
          clear hK K
          refine nm_ ?_
          refine la_ (i := 17) (N := some 53) (fun K hK => ?_) (hc := (by kernel_rfl))
          refine Kd.lc (Kd.slice 64 k64) (w0 := wc) wc.heap.size (by rfl) (.tmp 36) (.tmp 52) 96 61 (.slice none 0 0) 24 rfl Tryz.underlying96 nW rfl (by decide) (by omega) u12 ac2 cell [.slice A5 cell.length c51] (fun _ => True) (fun k_ => some k_ = (.slice A5 cell.length c51 : Value).ownBlock) rfl rfl ?aP (fun k_ hk_ => ((Kd.ae (ok' := fun k_ => ((fun _ => True)) k_ ∧ some k_ ≠ (u12 : Value).ownBlock) (Kd.gm (HV8.out) (Kd.ji HS8.out) (by decide)) (fun k_ hk => ⟨trivial, hk.2⟩))).1 k_ hk_.symm) ?aF ?aO ?aB ?aS ?aL ?_
          (case aP => exact Kd.lm (Kd.ae (Kd.kS rfl (Kd.ae (ok' := fun k_ => ((fun _ => True)) k_ ∧ some k_ ≠ (u12 : Value).ownBlock) (Kd.gm (HV8.out) (Kd.ji HS8.out) (by decide)) (fun k_ hk => ⟨trivial, hk.2⟩))) (fun _ h_ => h_)))
          (case aB => exact HB8.out)
          (case aF => exact (fun _ _ => trivial))
          (case aO => exact Kd.mi HS8.out (fun k_ hk => ⟨trivial, fun e_ => hk.2 e_⟩))
          (case aS => exact af HB8.out)
          (case aL => have := HLX.out; omega)
          intro v53 D2 ho hb hg hat
          have C4 := a_ (Kd.dn (ok := (fun k_ => nb_ k_ A5 cell.length c51)) (Kd.ae A7.out (fun _ hk => ⟨hk.2, hk.1⟩)) hg hat)
          have HS9 := a_ ho
          have HB9 := a_ hb
          clear A7 HS8 HV8 HB8 ho hb hg hat
          refine hK.out _ _ ?_
          clear hK K
          refine nm_ ?_
          refine pv_ 18 (some 12) ?_ (hc := (by kernel_rfl))
          refine ja (by kernel_rfl) ?_
          try go_wp2
          go_roundg k2
          case measure => omega
          case rel => exact ⟨x + 1, ac2 ++ [cell], bZ, ⟨by have := HX.out; have := HXV.out; omega, by have := HXV.out; omega, by have := HX.out; rw [List.length_append, List.length_singleton]; omega⟩, HR4, ⟨Kd.ae C4.out (fun _ hk => hk.2)⟩, HS9, HB9⟩
 ·rw [if_neg hp] at h; cases h
end Go.Proofs.YtkpidjmhdagkfaaGreatDoor.QFnReadForms
