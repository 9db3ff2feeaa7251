-- Written by own_print.py of this session's repo over the kit's print (its output, turned at some places).
import Derived.Test.YtdpmpoakjhhaaaaGreatDoorQFnMirroredStripsx0
import Derived.Test.YtdpmpoakjhhaaaaGreatDoorQFnMirroredStripsx4
import Derived.Test.YtdpmpoakjhhaaaaGreatDoorQFnMirroredStripsx6
namespace Go.Proofs.YtdpmpoakjhhaaaaGreatDoor.QFnMirroredStrips
open Go.RowKit Go.Proofs.YtdpmpoakjhhaaaaGreatDoorW.PrintWords Go.Proofs.YtdpmpoakjhhaaaaGreatDoorW.PrintLast Go.Proofs.YtdpmpoakjhhaaaaGreatDoorW.PrintMore
attribute [local go_sem] max2_int min2_int max_two min_two max_three min_three max_four min_four   -- for this text's walks alone
set_option linter.unusedVariables false
set_option linter.unusedSimpArgs false

/-! ### impl_foldStrip: function 29 -/
mutual
def impl_foldStrip.l0 : Nat → ByteArray → List (List Int) → Int → Int → Option (List Int × ByteArray)
  | 0, _, _, _, _ => none
  | k + 1, x0, x4, x20, x21 => if x21 < x20 then (if x4.length < 5864062014805 then (impl_foldStrip.l0 k x0 (x4 ++ [(([wrap64 (x21 + 1)] : List Int))]) x20 (wrap64 (x21 + 1))) else (none)) else (if 0 ≤ (wrap64 ((x4.length : Int) - 1)) then (if (wrap64 ((x4.length : Int) - 1) : Int).toNat ≤ 281474976710656 then (impl_foldStrip.l1 k x0 x4 (List.replicate (wrap64 ((x4.length : Int) - 1) : Int).toNat 0) (x0.size : Int) 0) else (none)) else (none))
def impl_foldStrip.l1 : Nat → ByteArray → List (List Int) → List Int → Int → Int → Option (List Int × ByteArray)
  | 0, _, _, _, _, _ => none
  | k + 1, x0, x4, x6, x36, x37 => if x37 < x36 then (if 0 ≤ (wrap64 ((wrap64 ((x4.length : Int) / 2)) - 1)) then (if (wrap64 ((wrap64 ((x4.length : Int) / 2)) - 1)) < (x4.length : Int) then (impl_foldStrip.l2 k x0 x4 x6 x37 (wrap64 ((x4.length : Int) / 2)) x36 x37 (rd_L2 x4 (wrap64 ((wrap64 ((x4.length : Int) / 2)) - 1))) ((rd_L2 x4 (wrap64 ((wrap64 ((x4.length : Int) / 2)) - 1))).length : Int) 0) else (none)) else (none)) else (if 0 < (x4.length : Int) then (some (rd_L2 x4 0, strOfNums x6)) else (none))
def impl_foldStrip.l2 : Nat → ByteArray → List (List Int) → List Int → Int → Int → Int → Int → List Int → Int → Int → Option (List Int × ByteArray)
  | 0, _, _, _, _, _, _, _, _, _, _ => none
  | k + 1, x0, x4, x6, x7, x8, x36, x37, x47, x48, x49 => if x49 < x48 then (if 0 ≤ x49 then (if x49 < (x47.length : Int) then (if 0 ≤ x8 then (if x8 < (x4.length : Int) then (if x49 < ((rd_L2 x4 x8).length : Int) then (if (rd x47 x49) > 0 then (if 0 ≤ (wrap64 ((mn (mx (rd x47 x49) (wrap64 (-(rd x47 x49)))) (mx (rd (rd_L2 x4 x8) x49) (wrap64 (-(rd (rd_L2 x4 x8) x49))))) - 1)) then (if (wrap64 ((mn (mx (rd x47 x49) (wrap64 (-(rd x47 x49)))) (mx (rd (rd_L2 x4 x8) x49) (wrap64 (-(rd (rd_L2 x4 x8) x49))))) - 1)) < (x6.length : Int) then (impl_foldStrip.l2 k x0 x4 (x6.set ((wrap64 ((mn (mx (rd x47 x49) (wrap64 (-(rd x47 x49)))) (mx (rd (rd_L2 x4 x8) x49) (wrap64 (-(rd (rd_L2 x4 x8) x49))))) - 1)) : Int).toNat 86) x7 x8 x36 x37 x47 x48 (wrap64 (x49 + 1))) else (none)) else (none)) else (if 0 ≤ (wrap64 ((mn (mx (rd x47 x49) (wrap64 (-(rd x47 x49)))) (mx (rd (rd_L2 x4 x8) x49) (wrap64 (-(rd (rd_L2 x4 x8) x49))))) - 1)) then (if (wrap64 ((mn (mx (rd x47 x49) (wrap64 (-(rd x47 x49)))) (mx (rd (rd_L2 x4 x8) x49) (wrap64 (-(rd (rd_L2 x4 x8) x49))))) - 1)) < (x6.length : Int) then (impl_foldStrip.l2 k x0 x4 (x6.set ((wrap64 ((mn (mx (rd x47 x49) (wrap64 (-(rd x47 x49)))) (mx (rd (rd_L2 x4 x8) x49) (wrap64 (-(rd (rd_L2 x4 x8) x49))))) - 1)) : Int).toNat 77) x7 x8 x36 x37 x47 x48 (wrap64 (x49 + 1))) else (none)) else (none))) else (none)) else (none)) else (none)) else (none)) else (none)) else (if 0 ≤ x8 then (if x8 ≤ (x4.length : Int) then ((some (x4.drop (x8 : Int).toNat : List (List Int))).bind fun y314 => ((some (x4.take (x8 : Int).toNat : List (List Int))).bind fun y319 => (if 0 ≤ x7 then (if x7 < (x0.size : Int) then (if (bt x0 x7) = 82 then (impl_foldStrip.j3 k x0 x6 x8 y319 y314 x36 x37) else (impl_foldStrip.j3 k x0 x6 x8 y314 y319 x36 x37)) else (none)) else (none)))) else (none)) else (none))
def impl_foldStrip.j3 : Nat → ByteArray → List Int → Int → List (List Int) → List (List Int) → Int → Int → Option (List Int × ByteArray)
  | 0, _, _, _, _, _, _, _ => none
  | k + 1, x0, x6, x8, x13, x14, x36, x37 => impl_foldStrip.l3 k x0 x6 x8 x13 x14 (([] : List (List Int))) x36 x37 x8 0
def impl_foldStrip.l3 : Nat → ByteArray → List Int → Int → List (List Int) → List (List Int) → List (List Int) → Int → Int → Int → Int → Option (List Int × ByteArray)
  | 0, _, _, _, _, _, _, _, _, _, _ => none
  | k + 1, x0, x6, x8, x13, x14, x15, x36, x37, x90, x91 => if x91 < x90 then (if 0 ≤ (wrap64 ((wrap64 (x8 - 1)) - x91)) then (if (wrap64 ((wrap64 (x8 - 1)) - x91)) < (x14.length : Int) then ((impl_turned.f k (rd_L2 x14 (wrap64 ((wrap64 (x8 - 1)) - x91)))).bind fun t328 => (if 0 ≤ x91 then (if x91 < (x13.length : Int) then ((slices_Concat_int64_int64.f k (([t328, rd_L2 x13 x91] : List (List Int)))).bind fun t335 => (if x15.length < 5864062014805 then (impl_foldStrip.l3 k x0 x6 x8 x13 x14 (x15 ++ [t335]) x36 x37 x90 (wrap64 (x91 + 1))) else (none))) else (none)) else (none))) else (none)) else (none)) else (impl_foldStrip.l1 k x0 x15 x6 x36 (wrap64 (x37 + 1)))
end
def impl_foldStrip.f (k : Nat) (a0 : ByteArray) : Option (List Int × ByteArray) := impl_foldStrip.l0 k a0 (([] : List (List Int))) (shl .i64 1 (a0.size : Int)) 0
theorem impl_foldStrip.mono_l : ∀ k, (∀ y0 y1 y2 y3, LeO (impl_foldStrip.l0 k y0 y1 y2 y3) (impl_foldStrip.l0 (k + 1) y0 y1 y2 y3)) ∧ (∀ y0 y1 y2 y3 y4, LeO (impl_foldStrip.l1 k y0 y1 y2 y3 y4) (impl_foldStrip.l1 (k + 1) y0 y1 y2 y3 y4)) ∧ (∀ y0 y1 y2 y3 y4 y5 y6 y7 y8 y9, LeO (impl_foldStrip.l2 k y0 y1 y2 y3 y4 y5 y6 y7 y8 y9) (impl_foldStrip.l2 (k + 1) y0 y1 y2 y3 y4 y5 y6 y7 y8 y9)) ∧ (∀ y0 y1 y2 y3 y4 y5 y6, LeO (impl_foldStrip.j3 k y0 y1 y2 y3 y4 y5 y6) (impl_foldStrip.j3 (k + 1) y0 y1 y2 y3 y4 y5 y6)) ∧ (∀ y0 y1 y2 y3 y4 y5 y6 y7 y8 y9, LeO (impl_foldStrip.l3 k y0 y1 y2 y3 y4 y5 y6 y7 y8 y9) (impl_foldStrip.l3 (k + 1) y0 y1 y2 y3 y4 y5 y6 y7 y8 y9))
  | 0 => ⟨fun _ _ _ _ r h => by simp [impl_foldStrip.l0] at h, fun _ _ _ _ _ r h => by simp [impl_foldStrip.l1] at h, fun _ _ _ _ _ _ _ _ _ _ r h => by simp [impl_foldStrip.l2] at h, fun _ _ _ _ _ _ _ r h => by simp [impl_foldStrip.j3] at h, fun _ _ _ _ _ _ _ _ _ _ r h => by simp [impl_foldStrip.l3] at h⟩
  | k + 1 => by
    obtain ⟨ih0, ih1, ih2, ih3, ih4⟩ := impl_foldStrip.mono_l k
    refine ⟨?_, ?_, ?_, ?_, ?_⟩
    · intro y0 y1 y2 y3
      unfold impl_foldStrip.l0
      repeat' first
      | (with_reducible exact ih0 _ _ _ _)
      | (with_reducible exact ih1 _ _ _ _ _)
      | (with_reducible exact ih2 _ _ _ _ _ _ _ _ _ _)
      | (with_reducible exact ih3 _ _ _ _ _ _ _)
      | (with_reducible exact ih4 _ _ _ _ _ _ _ _ _ _)
      | (with_reducible exact impl_turned.mono _ _)
      | (with_reducible exact slices_Concat_int64_int64.mono _ _)
      | (with_reducible exact LeO.refl _)
      | (with_reducible exact LeO.none _)
      | (with_reducible refine LeO.ite ?_ ?_)
      | (with_reducible refine LeO.bind ?_ (fun _ => ?_))
      | exact ih0 _ _ _ _
      | exact ih1 _ _ _ _ _
      | exact ih2 _ _ _ _ _ _ _ _ _ _
      | exact ih3 _ _ _ _ _ _ _
      | exact ih4 _ _ _ _ _ _ _ _ _ _
      | exact impl_turned.mono _ _
      | exact slices_Concat_int64_int64.mono _ _
      | exact LeO.none _
      | refine LeO.ite ?_ ?_
      | refine LeO.bind ?_ (fun _ => ?_)
    · intro y0 y1 y2 y3 y4
      unfold impl_foldStrip.l1
      repeat' first
      | (with_reducible exact ih0 _ _ _ _)
      | (with_reducible exact ih1 _ _ _ _ _)
      | (with_reducible exact ih2 _ _ _ _ _ _ _ _ _ _)
      | (with_reducible exact ih3 _ _ _ _ _ _ _)
      | (with_reducible exact ih4 _ _ _ _ _ _ _ _ _ _)
      | (with_reducible exact impl_turned.mono _ _)
      | (with_reducible exact slices_Concat_int64_int64.mono _ _)
      | (with_reducible exact LeO.refl _)
      | (with_reducible exact LeO.none _)
      | (with_reducible refine LeO.ite ?_ ?_)
      | (with_reducible refine LeO.bind ?_ (fun _ => ?_))
      | exact ih0 _ _ _ _
      | exact ih1 _ _ _ _ _
      | exact ih2 _ _ _ _ _ _ _ _ _ _
      | exact ih3 _ _ _ _ _ _ _
      | exact ih4 _ _ _ _ _ _ _ _ _ _
      | exact impl_turned.mono _ _
      | exact slices_Concat_int64_int64.mono _ _
      | exact LeO.none _
      | refine LeO.ite ?_ ?_
      | refine LeO.bind ?_ (fun _ => ?_)
    · intro y0 y1 y2 y3 y4 y5 y6 y7 y8 y9
      unfold impl_foldStrip.l2
      repeat' first
      | (with_reducible exact ih0 _ _ _ _)
      | (with_reducible exact ih1 _ _ _ _ _)
      | (with_reducible exact ih2 _ _ _ _ _ _ _ _ _ _)
      | (with_reducible exact ih3 _ _ _ _ _ _ _)
      | (with_reducible exact ih4 _ _ _ _ _ _ _ _ _ _)
      | (with_reducible exact impl_turned.mono _ _)
      | (with_reducible exact slices_Concat_int64_int64.mono _ _)
      | (with_reducible exact LeO.refl _)
      | (with_reducible exact LeO.none _)
      | (with_reducible refine LeO.ite ?_ ?_)
      | (with_reducible refine LeO.bind ?_ (fun _ => ?_))
      | exact ih0 _ _ _ _
      | exact ih1 _ _ _ _ _
      | exact ih2 _ _ _ _ _ _ _ _ _ _
      | exact ih3 _ _ _ _ _ _ _
      | exact ih4 _ _ _ _ _ _ _ _ _ _
      | exact impl_turned.mono _ _
      | exact slices_Concat_int64_int64.mono _ _
      | exact LeO.none _
      | refine LeO.ite ?_ ?_
      | refine LeO.bind ?_ (fun _ => ?_)
    · intro y0 y1 y2 y3 y4 y5 y6
      unfold impl_foldStrip.j3
      repeat' first
      | (with_reducible exact ih0 _ _ _ _)
      | (with_reducible exact ih1 _ _ _ _ _)
      | (with_reducible exact ih2 _ _ _ _ _ _ _ _ _ _)
      | (with_reducible exact ih3 _ _ _ _ _ _ _)
      | (with_reducible exact ih4 _ _ _ _ _ _ _ _ _ _)
      | (with_reducible exact impl_turned.mono _ _)
      | (with_reducible exact slices_Concat_int64_int64.mono _ _)
      | (with_reducible exact LeO.refl _)
      | (with_reducible exact LeO.none _)
      | (with_reducible refine LeO.ite ?_ ?_)
      | (with_reducible refine LeO.bind ?_ (fun _ => ?_))
      | exact ih0 _ _ _ _
      | exact ih1 _ _ _ _ _
      | exact ih2 _ _ _ _ _ _ _ _ _ _
      | exact ih3 _ _ _ _ _ _ _
      | exact ih4 _ _ _ _ _ _ _ _ _ _
      | exact impl_turned.mono _ _
      | exact slices_Concat_int64_int64.mono _ _
      | exact LeO.none _
      | refine LeO.ite ?_ ?_
      | refine LeO.bind ?_ (fun _ => ?_)
    · intro y0 y1 y2 y3 y4 y5 y6 y7 y8 y9
      unfold impl_foldStrip.l3
      repeat' first
      | (with_reducible exact ih0 _ _ _ _)
      | (with_reducible exact ih1 _ _ _ _ _)
      | (with_reducible exact ih2 _ _ _ _ _ _ _ _ _ _)
      | (with_reducible exact ih3 _ _ _ _ _ _ _)
      | (with_reducible exact ih4 _ _ _ _ _ _ _ _ _ _)
      | (with_reducible exact impl_turned.mono _ _)
      | (with_reducible exact slices_Concat_int64_int64.mono _ _)
      | (with_reducible exact LeO.refl _)
      | (with_reducible exact LeO.none _)
      | (with_reducible refine LeO.ite ?_ ?_)
      | (with_reducible refine LeO.bind ?_ (fun _ => ?_))
      | exact ih0 _ _ _ _
      | exact ih1 _ _ _ _ _
      | exact ih2 _ _ _ _ _ _ _ _ _ _
      | exact ih3 _ _ _ _ _ _ _
      | exact ih4 _ _ _ _ _ _ _ _ _ _
      | exact impl_turned.mono _ _
      | exact slices_Concat_int64_int64.mono _ _
      | exact LeO.none _
      | refine LeO.ite ?_ ?_
      | refine LeO.bind ?_ (fun _ => ?_)
theorem impl_foldStrip.mono : ∀ a0 k, LeO (impl_foldStrip.f k a0) (impl_foldStrip.f (k + 1) a0) := by
  intro a0 k
  obtain ⟨ih0, ih1, ih2, ih3, ih4⟩ := impl_foldStrip.mono_l k
  unfold impl_foldStrip.f
  repeat' first
      | (with_reducible exact ih0 _ _ _ _)
      | (with_reducible exact ih1 _ _ _ _ _)
      | (with_reducible exact ih2 _ _ _ _ _ _ _ _ _ _)
      | (with_reducible exact ih3 _ _ _ _ _ _ _)
      | (with_reducible exact ih4 _ _ _ _ _ _ _ _ _ _)
      | (with_reducible exact impl_turned.mono _ _)
      | (with_reducible exact slices_Concat_int64_int64.mono _ _)
      | (with_reducible exact LeO.refl _)
      | (with_reducible exact LeO.none _)
      | (with_reducible refine LeO.ite ?_ ?_)
      | (with_reducible refine LeO.bind ?_ (fun _ => ?_))
      | exact ih0 _ _ _ _
      | exact ih1 _ _ _ _ _
      | exact ih2 _ _ _ _ _ _ _ _ _ _
      | exact ih3 _ _ _ _ _ _ _
      | exact ih4 _ _ _ _ _ _ _ _ _ _
      | exact impl_turned.mono _ _
      | exact slices_Concat_int64_int64.mono _ _
      | exact LeO.none _
      | refine LeO.ite ?_ ?_
      | refine LeO.bind ?_ (fun _ => ?_)
def impl_foldStrip.T21 : Bool × List (List Nat × List Nat) := (true, [([], []), ([], []), ([0, 1], [0, 1]), ([], []), ([], []), ([3, 4], [3, 4]), ([2, 0, 1, 2], [2]), ([5, 6, 0, 1, 2, 3, 4, 5, 6], [5])])
def impl_foldStrip.B21 : List Nat := [0, 0, 3, 0, 0, 24, 7, 127]
theorem impl_foldStrip.tab21 : rtab .any (opsOf Tryz.f29 21) = impl_foldStrip.T21 := by kernel_rfl
theorem impl_foldStrip.bits21 : waitsOk impl_foldStrip.T21.2 impl_foldStrip.B21 = true := by kernel_rfl
def impl_foldStrip.T28 : Bool × List (List Nat × List Nat) := (true, [([], []), ([], []), ([], []), ([2], [2]), ([], []), ([3, 4], [3, 4]), ([1, 5], [1, 5]), ([6], [6]), ([7], [7]), ([], []), ([], []), ([9, 10], [9, 10]), ([11], [11]), ([8, 12], [8, 12]), ([13, 8], [13]), ([14], [14]), ([0, 15, 14], [0, 15]), ([16, 16, 0, 1, 2, 3, 4, 5, 6, 7, 8, 9, 10, 11, 12, 13, 14, 15, 16], [0, 16])])
def impl_foldStrip.B28 : List Nat := [0, 0, 0, 4, 0, 28, 62, 126, 254, 0, 0, 1536, 3584, 8190, 16382, 32766, 65535, 131071]
theorem impl_foldStrip.tab28 : rtab .any (opsOf Tryz.f29 28) = impl_foldStrip.T28 := by kernel_rfl
theorem impl_foldStrip.bits28 : waitsOk impl_foldStrip.T28.2 impl_foldStrip.B28 = true := by kernel_rfl
def osl (B : Nat) : Kd (List Int) where
  sz := 1
  E := []
  K := fun w x cs => (Kd.slice 2 (Kd.int .i64)).K w x cs ∧ ∃ v, cs = [v] ∧ Kd.R (Kd.int .i64) 2 w B (fun _ => True) v x
  M := fun _ _ _ _ _ => False
  K_len := fun h => (Kd.slice 2 (Kd.int .i64)).K_len h.1
  K_one := fun h => (Kd.slice 2 (Kd.int .i64)).K_one h.1
  K_below := fun hb h => ⟨(Kd.slice 2 (Kd.int .i64)).K_below hb h.1, let ⟨v, e, r⟩ := h.2; ⟨v, e, Kd.R_below r hb⟩⟩
  K_of_M := fun h => h.elim
  M_mono := fun _ h => h.elim
  M_bound := fun h => h.elim
  M_move := fun _ h => h.elim
  M_lower := fun _ h => h.elim
theorem osl_C {B : Nat} {w : World} {A : Option Addr} {m : Nat} {xs : List (List Int)} (h : (osl B).C w A m xs) : (Kd.slice 2 (Kd.int .i64)).C w A m xs := ReadsRow.imp_ h (Below.refl _ _) (fun _ _ hp => hp.1)
theorem osl_FK {B : Nat} {W : World} {ok : Nat → Prop} {l : List Int} {cs : List Value} (h : Kd.FK (osl B) W ok l cs) : Kd.FK (Kd.slice 2 (Kd.int .i64)) W ok l cs := fun W' hW => (h W' hW).1
theorem osl_own {B : Nat} {W : World} {ok : Nat → Prop} {l : List Int} {cs : List Value} (h : Kd.FK (osl B) W ok l cs) : ∃ v, cs = [v] ∧ Kd.R (Kd.int .i64) 2 W B (fun _ => True) v l := (Kd.FK_now h).2
theorem osl_mk {B c : Nat} {W : World} {ok : Nat → Prop} {A : Option Addr} {l : List Int} (h : Kd.R (Kd.int .i64) 2 W B ok (.slice A l.length c) l) : Kd.FK (osl B) W ok l [.slice A l.length c] := fun W' hW => ⟨Kd.FK_slice_mk (Kd.R_reads' h).2.1 (Kd.R_F h) W' hW, _, rfl, Kd.R_mono (Kd.R_step h hW) (fun _ _ => trivial)⟩
set_option maxHeartbeats 8000000 in
set_option maxRecDepth 100000 in
theorem impl_foldStrip.calls (k : Nat) (a0 : ByteArray) (r1 : List Int) (r2 : ByteArray) (w : World) (h : impl_foldStrip.f k a0 = some (r1, r2)) :
    Calls Tryz.prog 29 #[.string a0] w fun e w' => ∃ v0_ : Value, e = .returned (.tuple #[v0_, .string r2]) ∧ Kd.R (Kd.int .i64) 2 w' w.heap.size (fun _ => True) v0_ r1 ∧ Below w.heap.size w w' := by
  have HB := Aside0.mk (Below.refl w.heap.size w)
  have H : (impl_foldStrip.l0 k a0 (([] : List (List Int))) (shl .i64 1 (a0.size : Int)) 0) = some (r1, r2) := h
  clear h
  obtain ⟨y295, hy295⟩ : ∃ y_ : List (List Int), y_ = (([] : List (List Int))) := ⟨_, rfl⟩
  replace H : (impl_foldStrip.l0 k a0 y295 (shl .i64 1 (a0.size : Int)) 0) = some (r1, r2) := by first | (rw [hy295]; with_reducible exact H) | (have H2_ := (Option.bind_some _ _).symm.trans H; rw [hy295]; with_reducible exact H2_) | (have H2_ := (Option.bind_some _ _).symm.trans H; with_reducible exact H2_) | with_reducible exact H | (rw [hy295]; exact H) | exact H
  have Ny295 := Aside0.mk hy295
  clear hy295
  obtain ⟨ji2, hji2⟩ : ∃ j_ : Int, (shl .i64 1 (a0.size : Int)) = j_ := ⟨_, rfl⟩
  replace H : (impl_foldStrip.l0 k a0 y295 ji2 0) = some (r1, r2) := by first | (rw [hji2] at H; exact H) | (simp only [hji2] at H ⊢; exact H)
  have hji2_ : (IntKind.i64.wrap (1 * 2 ^ min (a0.size : Int).toNat 64)) = ji2 := hji2
  have hji2z : (a0.size : Int) ≤ 64 → (IntKind.i64.wrap (1 * 2 ^ (a0.size : Int).toNat)) = ji2 := shl_small hji2
  have hji2u : (IntKind.i64.wrap (2 ^ min (a0.size : Int).toNat 64)) = ji2 := by have h_ := hji2_; rw [Int.one_mul] at h_; exact h_
  have hji2v : (a0.size : Int) ≤ 64 → (IntKind.i64.wrap (2 ^ (a0.size : Int).toNat)) = ji2 := fun hle_ => by have h_ := hji2z hle_; rw [Int.one_mul] at h_; exact h_
  have hji2y : (wrap64 (1 * 2 ^ min (a0.size : Int).toNat 64)) = ji2 := (i64_w _).symm.trans hji2_
  have hji2s : wrap64 (2 ^ min a0.size 64) = ji2 := by have h_ := hji2y; rw [Int.one_mul] at h_; exact h_
  have hji2s1 : wrap64 (1 * 2 ^ min a0.size 64) = ji2 := hji2y
  have hji2t : IntKind.i64.wrap (2 ^ min a0.size 64) = ji2 := by have h_ := hji2_; rw [Int.one_mul] at h_; exact h_
  have hji2t1 : IntKind.i64.wrap (1 * 2 ^ min a0.size 64) = ji2 := hji2_
  have hji2x : (a0.size : Int) ≤ 64 → (wrap64 (1 * 2 ^ (a0.size : Int).toNat)) = ji2 := fun h_ => (i64_w _).symm.trans (hji2z h_)
  have H' := Aside0.mk H
  clear H
  go_enter Tryz.func29, Tryz.ntmps29
  go_wp2_with (first | ((with_reducible refine gate_dst (N := 17) rfl ?_); refine Kd.N_lit (osl w.heap.size) _ 27 ?hg (N' := 17) ?hd (xs := ([] : List (List Int))) (inner := []) (ok := (fun k_ => (w.heap.size ≤ k_))) (okp := (fun k_ => (w.heap.size ≤ k_))) ?hr ?hp (fun _ hk => hk) ((show ∀ k_, w.heap.size ≤ k_ → (fun k_ => (w.heap.size ≤ k_)) k_ from fun k_ hk => (Nat.le_trans (below_size (by repeat (first | (with_reducible first | exact HB.out | apply below_alloc | apply pw_below_drewN | apply below_drew1) | exact HB.out))) hk)) _ (Nat.le_refl _)) (Below.refl _ _) (Nat.le_refl _) (by simp) ?_; (case hd => rfl); (case hg => rfl); (case hr => first | (go_simp; done) | (go_simp; rfl)); (case hp => exact (Reps.none _ _)); intro v296 w3 ho4 hb hg_ hnew_; clear hg_ hnew_; (first | rw [← Ny295.out] at ho4 | (simp only [Int.reduceToNat] at ho4; rw [← Ny295.out] at ho4)); have n0_ := Aside0.mk (Kd.N_lower ho4 (below_size (by repeat (first | (with_reducible first | exact HB.out | apply below_alloc | apply pw_below_drewN | apply below_drew1) | exact HB.out)))); have n1_ := Aside0.mk (below_step (by repeat (first | (with_reducible first | exact HB.out | apply below_alloc | apply pw_below_drewN | apply below_drew1) | exact HB.out)) hb); clear HB; have HO297 := n0_; have HB := n1_; clear n0_ n1_; clear hb ho4))
  go_loopg [4, 21] k (fun kq v4 v21 w' => ∃ (x4_1 : List (List Int)) (x21_1 : Int), v21 = .int .i64 x21_1 ∧ Aside0 (impl_foldStrip.l0 kq a0 x4_1 ji2 x21_1 = some (r1, r2)) ∧ Aside0 (kq ≤ k) ∧ Aside0 (Kd.N (osl w.heap.size) 27 w' w.heap.size (fun k_ => (w.heap.size ≤ k_)) v4 x4_1) ∧ Aside0 (Below w.heap.size w w'))
  case atStart => exact ⟨(y295), (0), (by first | rfl | (simp; done) | (simp [*]; done)), H', ⟨Nat.le_refl _⟩, ⟨by (with_reducible repeat (first | apply Kd.N_alloc | apply Kd.N_drewN | apply Kd.N_drew)); exact HO297.out⟩, ⟨by repeat (first | (with_reducible first | exact HB.out | apply below_alloc | apply pw_below_drewN | apply below_drew1) | exact HB.out)⟩⟩
  case round =>
    clear H'
    try clear c2
    try clear p2
    obtain ⟨x4_1, x21_1, rfl, HA, HK1, HO_4, HB⟩ := hrel
    cases gk with
    | zero => exact absurd HA.out (by simp [impl_foldStrip.l0])
    | succ k1 =>
      have H := HA.out
      clear HA
      simp only [impl_foldStrip.l0] at H
      by_cases c5 : x21_1 < ji2
      · rw [if_pos c5] at H
        have c5b0 : decide (x21_1 < ji2) = true := decide_eq_true c5
        clear c5
        obtain ⟨y298, hy298⟩ : ∃ y_ : List Int, y_ = (([wrap64 (x21_1 + 1)] : List Int)) := ⟨_, rfl⟩
        replace H : (if x4_1.length < 5864062014805 then (impl_foldStrip.l0 k1 a0 (x4_1 ++ [y298]) ji2 (wrap64 (x21_1 + 1))) else (none)) = some (r1, r2) := by first | (rw [hy298]; with_reducible exact H) | (have H2_ := (Option.bind_some _ _).symm.trans H; rw [hy298]; with_reducible exact H2_) | (have H2_ := (Option.bind_some _ _).symm.trans H; with_reducible exact H2_) | with_reducible exact H | (rw [hy298]; exact H) | exact H
        have Ny298 := Aside0.mk hy298
        clear hy298
        by_cases c6 : x4_1.length < 5864062014805
        · rw [if_pos c6] at H
          have LMc6 := Aside0.mk c6
          clear c6
          obtain ⟨y301, hy301⟩ : ∃ y_ : List (List Int), y_ = (x4_1 ++ [y298]) := ⟨_, rfl⟩
          replace H : (impl_foldStrip.l0 k1 a0 y301 ji2 (wrap64 (x21_1 + 1))) = some (r1, r2) := by first | (rw [hy301]; with_reducible exact H) | (have H2_ := (Option.bind_some _ _).symm.trans H; rw [hy301]; with_reducible exact H2_) | (have H2_ := (Option.bind_some _ _).symm.trans H; with_reducible exact H2_) | with_reducible exact H | (rw [hy301]; exact H) | exact H
          have Ny301 := Aside0.mk hy301
          clear hy301
          have H' := Aside0.mk H
          clear H
          go_wp2_with (first | ((with_reducible refine gate_dst (N := 27) rfl ?_); refine Kd.R_lit (Kd.int .i64) _ 2 ?hg (N := 27) ?hd (xs := ([wrap64 (x21_1 + 1)] : List Int)) (inner := [.int .i64 (wrap64 (x21_1 + 1))]) (ok := fun _ => True) (okp := fun _ => True) ?hr ?hp (fun _ hk => hk) trivial (Below.refl _ _) (Nat.le_refl _) (by simp) ?_; (case hd => rfl); (case hg => rfl); (case hr => first | (go_simp; done) | (go_simp; rfl)); (case hp => exact (Reps.one (show Kd.M (Kd.int .i64) _ _ _ (wrap64 (x21_1 + 1)) [.int .i64 (wrap64 (x21_1 + 1))] from rfl) (Reps.none _ _))); intro v299 w7 ho8 hb hg_ hnew_; clear hg_ hnew_; (first | rw [← Ny298.out] at ho8 | (simp only [Int.reduceToNat] at ho8; rw [← Ny298.out] at ho8)); have n0_ := Aside0.mk (Kd.N_elder' (by (with_reducible repeat (first | apply Kd.N_alloc | apply Kd.N_drewN | apply Kd.N_drew)); exact HO_4.out) (Kd.R_base ho8) hb); have n1_ := Aside0.mk (Kd.R_lower (Kd.R_newM (M := fun k_ => (w.heap.size ≤ k_)) ho8 (below_size (by repeat (first | (with_reducible first | exact HB.out | apply below_alloc | apply pw_below_drewN | apply below_drew1) | exact HB.out))) (fun k_ h_ => h_)) (below_size (by repeat (first | (with_reducible first | exact HB.out | apply below_alloc | apply pw_below_drewN | apply below_drew1) | exact HB.out)))); have n2_ := Aside0.mk (below_step (by repeat (first | (with_reducible first | exact HB.out | apply below_alloc | apply pw_below_drewN | apply below_drew1) | exact HB.out)) hb); clear HO_4; clear HB; have HO_4 := n0_; have HO300 := n1_; have HB := n2_; clear n0_ n1_ n2_; clear hb ho8; obtain ⟨Ao10, co10, eo10⟩ := Kd.R_slice HO300.out; subst eo10) | ((with_reducible refine gate_builtin (b := .append) (xs := #[.tmp 24, .tmp 28]) rfl ?_); at_builtin; refine Kd.N_append (osl w.heap.size) (w0 := w) w.heap.size rfl (.tmp 24) (.tmp 28) 64 27 (.slice none 0 0) 24 rfl Tryz.underlying64 info27 rfl (show (0 : Nat) < 1 from Nat.zero_lt_one) (by omega) u4 x4_1 y298 [.slice Ao10 y298.length co10] (fun k_ => (w.heap.size ≤ k_)) (fun k_ => ((fun k_ => (w.heap.size ≤ k_))) k_ ∧ some k_ ≠ (u4 : Value).ownBlock) rfl rfl ?aP (fun _ hk => hk) ?aF ?aO ?aB ?aS ?aL ?_; (case aP => exact (osl_mk (Kd.R_mono (ok' := (fun k_ => ((fun k_ => (w.heap.size ≤ k_))) k_ ∧ some k_ ≠ (u4 : Value).ownBlock)) (Kd.R_apart' (HO300.out) (Kd.N_typed HO_4.out) (by decide)) (fun k_ hk => ⟨hk.1.1, hk.2⟩)))); (case aB => exact (by repeat (first | (with_reducible first | exact HB.out | apply below_alloc | apply pw_below_drewN | apply below_drew1) | exact HB.out))); (case aF => exact (fun k_ hk => (Nat.le_trans (below_size (by repeat (first | (with_reducible first | exact HB.out | apply below_alloc | apply pw_below_drewN | apply below_drew1) | exact HB.out))) hk))); (case aO => exact (by (with_reducible repeat (first | apply Kd.N_alloc | apply Kd.N_drewN | apply Kd.N_drew)); exact Kd.N_mono HO_4.out (fun _ hk => hk.1))); (case aS => exact (below_size (by repeat (first | (with_reducible first | exact HB.out | apply below_alloc | apply pw_below_drewN | apply below_drew1) | exact HB.out)))); (case aL => have := LMc6.out; omega); intro v302 w9 ho hb hg hat; rw [← Ny301.out] at ho; have n0_ := Aside0.mk (hb); have n1_ := Aside0.mk (ho); clear HB; clear HO_4; clear HO300; have HB := n0_; have HO303 := n1_; clear n0_ n1_; clear ho hb hg hat))
          go_roundg k1
          case measure => have := HK1.out; omega
          case rel => exact ⟨(y301), (wrap64 (x21_1 + 1)), (by first | rfl | (simp; done) | (simp [*]; done)), H', ⟨by have := HK1.out; omega⟩, ⟨by (with_reducible repeat (first | apply Kd.N_alloc | apply Kd.N_drewN | apply Kd.N_drew)); exact HO303.out⟩, ⟨by repeat (first | (with_reducible first | exact HB.out | apply below_alloc | apply pw_below_drewN | apply below_drew1) | exact HB.out)⟩⟩
        · rw [if_neg c6] at H
          exact absurd H (by simp)
      · rw [if_neg c5] at H
        have c5b0 : decide (x21_1 < ji2) = false := decide_eq_false c5
        clear c5
        obtain ⟨ji11, hji11⟩ : ∃ j_ : Int, (wrap64 ((x4_1.length : Int) - 1)) = j_ := ⟨_, rfl⟩
        replace H : (if 0 ≤ (ji11) then (if (ji11 : Int).toNat ≤ 281474976710656 then (impl_foldStrip.l1 k1 a0 x4_1 (List.replicate (ji11 : Int).toNat 0) (a0.size : Int) 0) else (none)) else (none)) = some (r1, r2) := by first | (rw [hji11] at H; exact H) | (simp only [hji11] at H ⊢; exact H)
        have hji11w : (IntKind.i64.wrap ((x4_1.length : Int) - 1)) = ji11 := (i64_w _).trans hji11
        by_cases c12 : 0 ≤ (ji11)
        · rw [if_pos c12] at H
          have c12b0 := eq_true c12
          have c12b1 : decide (0 ≤ (ji11)) = true := decide_eq_true c12
          clear c12
          by_cases c13 : (ji11 : Int).toNat ≤ 281474976710656
          · rw [if_pos c13] at H
            have c13b0 := eq_true c13
            have c13b1 : decide ((ji11 : Int).toNat ≤ 281474976710656) = true := decide_eq_true c13
            clear c13
            obtain ⟨y304, hy304⟩ : ∃ y_ : List Int, y_ = (List.replicate (ji11 : Int).toNat 0) := ⟨_, rfl⟩
            replace H : (impl_foldStrip.l1 k1 a0 x4_1 y304 (a0.size : Int) 0) = some (r1, r2) := by first | (rw [hy304]; with_reducible exact H) | (have H2_ := (Option.bind_some _ _).symm.trans H; rw [hy304]; with_reducible exact H2_) | (have H2_ := (Option.bind_some _ _).symm.trans H; with_reducible exact H2_) | with_reducible exact H | (rw [hy304]; exact H) | exact H
            have Ny304 := Aside0.mk hy304
            clear hy304
            have H' := Aside0.mk H
            clear H
            obtain ⟨Ao14, co14, eo14⟩ := Kd.N_slice HO_4.out
            subst eo14
            go_wp2_with (first | ((with_reducible refine gate_dst (N := 34) rfl ?_); refine Kd.R_make (Kd.int .u8) _ 5 rfl (N := 34) rfl 22 _ _ rfl ji11 rfl rfl Tryz.underlying22 (.int .u8 0) 1 info5 rfl (by decide) (by omega) 0 (ok := fun _ => True) (okp := fun _ => True) rfl (fun _ hk => hk) trivial (of_decide_eq_true (by first | (with_reducible assumption) | assumption)) (Nat.le_trans (Nat.mul_le_mul_right _ (of_decide_eq_true (by first | (with_reducible assumption) | assumption) : ji11.toNat ≤ 281474976710656)) (by omega)) (Below.refl _ _) (Nat.le_refl _) ?_; intro v305 w15 ho16 hb hg_ hnew_; clear hg_ hnew_; (first | rw [← Ny304.out] at ho16 | (simp only [Int.reduceToNat] at ho16; rw [← Ny304.out] at ho16)); have n0_ := Aside0.mk (Kd.N_elder' (by (with_reducible repeat (first | apply Kd.N_alloc | apply Kd.N_drewN | apply Kd.N_drew)); exact HO_4.out) (Kd.R_base ho16) hb); have n1_ := Aside0.mk (Kd.R_lower (Kd.R_newM (M := fun k_ => (w.heap.size ≤ k_)) ho16 (below_size (by repeat (first | (with_reducible first | exact HB.out | apply below_alloc | apply pw_below_drewN | apply below_drew1) | exact HB.out))) (fun k_ h_ => h_)) (below_size (by repeat (first | (with_reducible first | exact HB.out | apply below_alloc | apply pw_below_drewN | apply below_drew1) | exact HB.out)))); have n2_ := Aside0.mk (below_step (by repeat (first | (with_reducible first | exact HB.out | apply below_alloc | apply pw_below_drewN | apply below_drew1) | exact HB.out)) hb); clear HO_4; clear HB; have HO_4 := n0_; have HO306 := n1_; have HB := n2_; clear n0_ n1_ n2_; clear hb ho16))
            go_loopg [4, 37] k1 (fun kq v4 v37 w' => ∃ (x4_2 : List (List Int)) (x6_2 : List Int) (x37_2 : Int), v37 = .int .i64 x37_2 ∧ Aside0 (impl_foldStrip.l1 kq a0 x4_2 x6_2 (a0.size : Int) x37_2 = some (r1, r2)) ∧ Aside0 (kq ≤ k1) ∧ Aside0 (Kd.N (osl w.heap.size) 27 w' w.heap.size (fun k_ => (w.heap.size ≤ k_) ∧ some k_ ≠ (v305 : Value).ownBlock) v4 x4_2) ∧ Aside0 (Kd.R (Kd.int .u8) 5 w' w.heap.size (fun k_ => (w.heap.size ≤ k_)) v305 x6_2) ∧ Aside0 (Below w.heap.size w w'))
            case atStart => exact ⟨(x4_1), (y304), (0), (by first | rfl | (simp; done) | (simp [*]; done)), H', ⟨Nat.le_refl _⟩, ⟨by (with_reducible repeat (first | apply Kd.N_alloc | apply Kd.N_drewN | apply Kd.N_drew)); exact HO_4.out⟩, ⟨by (with_reducible repeat (first | apply Kd.R_alloc | apply Kd.R_drewN | apply Kd.R_drew)); exact Kd.R_mono HO306.out (fun _ hk => hk.1)⟩, ⟨by repeat (first | (with_reducible first | exact HB.out | apply below_alloc | apply pw_below_drewN | apply below_drew1) | exact HB.out)⟩⟩
            case round =>
              clear H'
              try clear c1
              try clear c2
              try clear p2
              try clear c5
              try clear c5b0
              try clear c6
              try clear p6
              try clear c12
              try clear c12b0
              try clear c12b1
              try clear c13
              try clear c13b0
              try clear c13b1
              try clear p2
              obtain ⟨x4_2, x6_2, x37_2, rfl, HA, HK2, HO_4, HO_6, HB⟩ := hrel
              cases gk with
              | zero => exact absurd HA.out (by simp [impl_foldStrip.l1])
              | succ k2 =>
                have H := HA.out
                clear HA
                simp only [impl_foldStrip.l1] at H
                by_cases c17 : x37_2 < (a0.size : Int)
                · rw [if_pos c17] at H
                  have c17b0 : decide (x37_2 < (a0.size : Int)) = true := decide_eq_true c17
                  clear c17
                  obtain ⟨ji18, hji18⟩ : ∃ j_ : Int, (wrap64 ((wrap64 ((x4_2.length : Int) / 2)) - 1)) = j_ := ⟨_, rfl⟩
                  replace H : (if 0 ≤ (ji18) then (if (ji18) < (x4_2.length : Int) then (impl_foldStrip.l2 k2 a0 x4_2 x6_2 x37_2 (wrap64 ((x4_2.length : Int) / 2)) (a0.size : Int) x37_2 (rd_L2 x4_2 (ji18)) ((rd_L2 x4_2 (ji18)).length : Int) 0) else (none)) else (none)) = some (r1, r2) := by first | (rw [hji18] at H; exact H) | (simp only [hji18] at H ⊢; exact H)
                  have hji18w : (IntKind.i64.wrap ((wrap64 ((x4_2.length : Int) / 2)) - 1)) = ji18 := (i64_w _).trans hji18
                  by_cases c19 : 0 ≤ (ji18)
                  · rw [if_pos c19] at H
                    have c19b0 : decide (0 ≤ (ji18)) = true := decide_eq_true c19
                    clear c19
                    by_cases c20 : (ji18) < (x4_2.length : Int)
                    · rw [if_pos c20] at H
                      have c20b0 : decide ((ji18) < (x4_2.length : Int)) = true := decide_eq_true c20
                      clear c20
                      have H' := Aside0.mk H
                      clear H
                      obtain ⟨Ao21, co21, eo21⟩ := Kd.N_slice HO_4.out
                      subst eo21
                      have p308 : 0 ≤ ((ji18) : Int) := of_decide_eq_true (by first | (with_reducible assumption) | assumption)
                      have q308 : (ji18) < (x4_2.length : Int) := of_decide_eq_true (by first | (with_reducible assumption) | assumption)
                      obtain ⟨ad308, A308_0, c308_0, e308, hx308_0, hl308_0, hi308_0⟩ := at_L2 (osl_C (Kd.N_reads' HO_4.out).2.2) (ji18) p308 q308
                      cases e308
                      obtain ⟨ce308, hce308, hMe308, hcc308⟩ := Kd.N_get HO_4.out [] (ji18) p308 (by first | exact q308 | exact of_decide_eq_true (by first | (with_reducible assumption) | assumption) | (have e_ := (Kd.N_reads' HO_4.out).1; omega))
                      have hOWN308_ := Aside0.mk (osl_own hMe308)
                      obtain ⟨ua308_0, uc308_0, rfl, ul308_0, ge308_0⟩ := Kd.FK_slice_open (osl_FK hMe308)
                      have hv308_0 := hcc308 0 _ rfl
                      rw [Nat.add_zero, show ((osl w.heap.size)).sz = 1 from rfl, Nat.mul_one] at hv308_0
                      replace hv308_0 := Option.some.inj (hv308_0.symm.trans hx308_0)
                      injection hv308_0 with hva_ hvn_ hvc_
                      rw [hva_] at ge308_0
                      rw [hvc_] at ul308_0
                      have HL308_0 := Aside0.mk (show Kd.V (Kd.int .i64) 2 _ w.heap.size _ _ (rd_L2 x4_2 (ji18)) from Kd.V_mk ul308_0 ge308_0)
                      clear hva_ hvn_ hvc_ ge308_0 ul308_0
                      clear hcc308 hce308
                      have HR308_0 := Aside0.mk hi308_0
                      have HC308_0 := Aside0.mk hl308_0
                      clear hi308_0 hl308_0
                      replace p308 := eq_true p308
                      replace q308 := eq_true q308
                      go_wp2
                      go_loopg [49] k2 (fun kq v49 w' => ∃ (x6_3 : List Int) (x49_3 : Int), v49 = .int .i64 x49_3 ∧ Aside0 (impl_foldStrip.l2 kq a0 x4_2 x6_3 x37_2 (wrap64 ((x4_2.length : Int) / 2)) (a0.size : Int) x37_2 (rd_L2 x4_2 (ji18)) ((rd_L2 x4_2 (ji18)).length : Int) x49_3 = some (r1, r2)) ∧ Aside0 (kq ≤ k2) ∧ Aside0 (Kd.N (osl w.heap.size) 27 w' w.heap.size (fun k_ => (w.heap.size ≤ k_) ∧ some k_ ≠ (v305 : Value).ownBlock) (.slice (some ad308) x4_2.length co21) x4_2) ∧ Aside0 (Kd.R (Kd.int .u8) 5 w' w.heap.size (fun k_ => (w.heap.size ≤ k_)) v305 x6_3) ∧ Aside0 (Kd.V (Kd.int .i64) 2 w' w.heap.size (fun k_ => (w.heap.size ≤ k_) ∧ some k_ ≠ ((.slice (some ad308) x4_2.length co21) : Value).ownBlock ∧ some k_ ≠ (v305 : Value).ownBlock) (.slice A308_0 (rd_L2 x4_2 (ji18)).length c308_0) (rd_L2 x4_2 (ji18))) ∧ Aside0 (Below w.heap.size w w'))
                      case atStart => exact ⟨(x6_2), (0), (by first | rfl | (simp; done) | (simp [*]; done)), H', ⟨Nat.le_refl _⟩, ⟨by (with_reducible repeat (first | apply Kd.N_alloc | apply Kd.N_drewN | apply Kd.N_drew)); exact HO_4.out⟩, ⟨by (with_reducible repeat (first | apply Kd.R_alloc | apply Kd.R_drewN | apply Kd.R_drew)); exact HO_6.out⟩, ⟨by (with_reducible repeat (first | apply Kd.V_alloc | apply Kd.V_drewN | apply Kd.V_drew)); exact Kd.V_mono HL308_0.out (fun _ hk => ⟨hk.1.1, ⟨hk.2, hk.1.2⟩⟩)⟩, ⟨by repeat (first | (with_reducible first | exact HB.out | apply below_alloc | apply pw_below_drewN | apply below_drew1) | exact HB.out)⟩⟩
                      case round =>
                        clear H'
                        try clear c1
                        try clear c2
                        try clear p2
                        try clear c3
                        try clear p3
                        try clear q3
                        try clear hx3
                        try clear c5
                        try clear c5b0
                        try clear c6
                        try clear p6
                        try clear c12
                        try clear c12b0
                        try clear c12b1
                        try clear c13
                        try clear c13b0
                        try clear c13b1
                        try clear c17
                        try clear c17b0
                        try clear c19
                        try clear c19b0
                        try clear c20
                        try clear c20b0
                        try clear hx308_0
                        try clear p2
                        try clear p308
                        try clear p6
                        try clear q308
                        obtain ⟨x6_3, x49_3, rfl, HA, HK3, HO_4, HO_6, HO_47, HB⟩ := hrel
                        cases gk with
                        | zero => exact absurd HA.out (by simp [impl_foldStrip.l2])
                        | succ k3 =>
                          have H := HA.out
                          clear HA
                          simp only [impl_foldStrip.l2] at H
                          by_cases c22 : x49_3 < ((rd_L2 x4_2 (ji18)).length : Int)
                          · rw [if_pos c22] at H
                            have c22b0 : decide (x49_3 < ((rd_L2 x4_2 (ji18)).length : Int)) = true := decide_eq_true c22
                            clear c22
                            by_cases c23 : 0 ≤ x49_3
                            · rw [if_pos c23] at H
                              have c23b0 : decide (0 ≤ x49_3) = true := decide_eq_true c23
                              clear c23
                              by_cases c24 : x49_3 < ((rd_L2 x4_2 (ji18)).length : Int)
                              · rw [if_pos c24] at H
                                have c24b0 : decide (x49_3 < ((rd_L2 x4_2 (ji18)).length : Int)) = true := decide_eq_true c24
                                clear c24
                                obtain ⟨ji25, hji25⟩ : ∃ j_ : Int, (wrap64 ((x4_2.length : Int) / 2)) = j_ := ⟨_, rfl⟩
                                replace H : (if 0 ≤ (ji25) then (if (ji25) < (x4_2.length : Int) then (if x49_3 < ((rd_L2 x4_2 (ji25)).length : Int) then (if (rd (rd_L2 x4_2 (ji18)) x49_3) > 0 then (if 0 ≤ (wrap64 ((mn (mx (rd (rd_L2 x4_2 (ji18)) x49_3) (wrap64 (-(rd (rd_L2 x4_2 (ji18)) x49_3)))) (mx (rd (rd_L2 x4_2 (ji25)) x49_3) (wrap64 (-(rd (rd_L2 x4_2 (ji25)) x49_3))))) - 1)) then (if (wrap64 ((mn (mx (rd (rd_L2 x4_2 (ji18)) x49_3) (wrap64 (-(rd (rd_L2 x4_2 (ji18)) x49_3)))) (mx (rd (rd_L2 x4_2 (ji25)) x49_3) (wrap64 (-(rd (rd_L2 x4_2 (ji25)) x49_3))))) - 1)) < (x6_3.length : Int) then (impl_foldStrip.l2 k3 a0 x4_2 (x6_3.set ((wrap64 ((mn (mx (rd (rd_L2 x4_2 (ji18)) x49_3) (wrap64 (-(rd (rd_L2 x4_2 (ji18)) x49_3)))) (mx (rd (rd_L2 x4_2 (ji25)) x49_3) (wrap64 (-(rd (rd_L2 x4_2 (ji25)) x49_3))))) - 1)) : Int).toNat 86) x37_2 (ji25) (a0.size : Int) x37_2 (rd_L2 x4_2 (ji18)) ((rd_L2 x4_2 (ji18)).length : Int) (wrap64 (x49_3 + 1))) else (none)) else (none)) else (if 0 ≤ (wrap64 ((mn (mx (rd (rd_L2 x4_2 (ji18)) x49_3) (wrap64 (-(rd (rd_L2 x4_2 (ji18)) x49_3)))) (mx (rd (rd_L2 x4_2 (ji25)) x49_3) (wrap64 (-(rd (rd_L2 x4_2 (ji25)) x49_3))))) - 1)) then (if (wrap64 ((mn (mx (rd (rd_L2 x4_2 (ji18)) x49_3) (wrap64 (-(rd (rd_L2 x4_2 (ji18)) x49_3)))) (mx (rd (rd_L2 x4_2 (ji25)) x49_3) (wrap64 (-(rd (rd_L2 x4_2 (ji25)) x49_3))))) - 1)) < (x6_3.length : Int) then (impl_foldStrip.l2 k3 a0 x4_2 (x6_3.set ((wrap64 ((mn (mx (rd (rd_L2 x4_2 (ji18)) x49_3) (wrap64 (-(rd (rd_L2 x4_2 (ji18)) x49_3)))) (mx (rd (rd_L2 x4_2 (ji25)) x49_3) (wrap64 (-(rd (rd_L2 x4_2 (ji25)) x49_3))))) - 1)) : Int).toNat 77) x37_2 (ji25) (a0.size : Int) x37_2 (rd_L2 x4_2 (ji18)) ((rd_L2 x4_2 (ji18)).length : Int) (wrap64 (x49_3 + 1))) else (none)) else (none))) else (none)) else (none)) else (none)) = some (r1, r2) := by first | (rw [hji25] at H; exact H) | (simp only [hji25] at H ⊢; exact H)
                                have hji25w : (IntKind.i64.wrap ((x4_2.length : Int) / 2)) = ji25 := (i64_w _).trans hji25
                                try have hji18xji25_1 : (wrap64 (ji25 - 1)) = ji18 := by (first | (have e_ := hji18; rw [hji25] at e_; first | exact e_ | exact (i64_w _).trans e_) | (have e_ := hji18w; rw [hji25] at e_; exact e_))
                                try have hji18xji25_2 : (IntKind.i64.wrap (ji25 - 1)) = ji18 := by (first | (have e_ := hji18; rw [hji25] at e_; first | exact e_ | exact (i64_w _).trans e_) | (have e_ := hji18w; rw [hji25] at e_; exact e_))
                                by_cases c26 : 0 ≤ (ji25)
                                · rw [if_pos c26] at H
                                  have c26b0 : decide (0 ≤ (ji25)) = true := decide_eq_true c26
                                  clear c26
                                  by_cases c27 : (ji25) < (x4_2.length : Int)
                                  · rw [if_pos c27] at H
                                    have c27b0 : decide ((ji25) < (x4_2.length : Int)) = true := decide_eq_true c27
                                    clear c27
                                    by_cases c28 : x49_3 < ((rd_L2 x4_2 (ji25)).length : Int)
                                    · rw [if_pos c28] at H
                                      have c28b0 : decide (x49_3 < ((rd_L2 x4_2 (ji25)).length : Int)) = true := decide_eq_true c28
                                      clear c28
                                      by_cases c29 : (rd (rd_L2 x4_2 (ji18)) x49_3) > 0
                                      · rw [if_pos c29] at H
                                        have c29b0 : decide (0 < (rd (rd_L2 x4_2 (ji18)) x49_3)) = true := decide_eq_true c29
                                        clear c29
                                        obtain ⟨ji30, hji30⟩ : ∃ j_ : Int, (mx (rd (rd_L2 x4_2 (ji18)) x49_3) (wrap64 (-(rd (rd_L2 x4_2 (ji18)) x49_3)))) = j_ := ⟨_, rfl⟩
                                        replace H : (if 0 ≤ (wrap64 ((mn (ji30) (mx (rd (rd_L2 x4_2 (ji25)) x49_3) (wrap64 (-(rd (rd_L2 x4_2 (ji25)) x49_3))))) - 1)) then (if (wrap64 ((mn (ji30) (mx (rd (rd_L2 x4_2 (ji25)) x49_3) (wrap64 (-(rd (rd_L2 x4_2 (ji25)) x49_3))))) - 1)) < (x6_3.length : Int) then (impl_foldStrip.l2 k3 a0 x4_2 (x6_3.set ((wrap64 ((mn (ji30) (mx (rd (rd_L2 x4_2 (ji25)) x49_3) (wrap64 (-(rd (rd_L2 x4_2 (ji25)) x49_3))))) - 1)) : Int).toNat 86) x37_2 (ji25) (a0.size : Int) x37_2 (rd_L2 x4_2 (ji18)) ((rd_L2 x4_2 (ji18)).length : Int) (wrap64 (x49_3 + 1))) else (none)) else (none)) = some (r1, r2) := by first | (rw [hji30] at H; exact H) | (simp only [hji30] at H ⊢; exact H)
                                        have hji30_ : (if (rd (rd_L2 x4_2 (ji18)) x49_3) < (wrap64 (-(rd (rd_L2 x4_2 (ji18)) x49_3))) then (wrap64 (-(rd (rd_L2 x4_2 (ji18)) x49_3))) else (rd (rd_L2 x4_2 (ji18)) x49_3)) = ji30 := hji30
                                        obtain ⟨ji31, hji31⟩ : ∃ j_ : Int, (mx (rd (rd_L2 x4_2 (ji25)) x49_3) (wrap64 (-(rd (rd_L2 x4_2 (ji25)) x49_3)))) = j_ := ⟨_, rfl⟩
                                        replace H : (if 0 ≤ (wrap64 ((mn (ji30) (ji31)) - 1)) then (if (wrap64 ((mn (ji30) (ji31)) - 1)) < (x6_3.length : Int) then (impl_foldStrip.l2 k3 a0 x4_2 (x6_3.set ((wrap64 ((mn (ji30) (ji31)) - 1)) : Int).toNat 86) x37_2 (ji25) (a0.size : Int) x37_2 (rd_L2 x4_2 (ji18)) ((rd_L2 x4_2 (ji18)).length : Int) (wrap64 (x49_3 + 1))) else (none)) else (none)) = some (r1, r2) := by first | (rw [hji31] at H; exact H) | (simp only [hji31] at H ⊢; exact H)
                                        have hji31_ : (if (rd (rd_L2 x4_2 (ji25)) x49_3) < (wrap64 (-(rd (rd_L2 x4_2 (ji25)) x49_3))) then (wrap64 (-(rd (rd_L2 x4_2 (ji25)) x49_3))) else (rd (rd_L2 x4_2 (ji25)) x49_3)) = ji31 := hji31
                                        obtain ⟨ji32, hji32⟩ : ∃ j_ : Int, (mn (ji30) (ji31)) = j_ := ⟨_, rfl⟩
                                        replace H : (if 0 ≤ (wrap64 ((ji32) - 1)) then (if (wrap64 ((ji32) - 1)) < (x6_3.length : Int) then (impl_foldStrip.l2 k3 a0 x4_2 (x6_3.set ((wrap64 ((ji32) - 1)) : Int).toNat 86) x37_2 (ji25) (a0.size : Int) x37_2 (rd_L2 x4_2 (ji18)) ((rd_L2 x4_2 (ji18)).length : Int) (wrap64 (x49_3 + 1))) else (none)) else (none)) = some (r1, r2) := by first | (rw [hji32] at H; exact H) | (simp only [hji32] at H ⊢; exact H)
                                        have hji32_ : (if (ji31) < (ji30) then (ji31) else (ji30)) = ji32 := hji32
                                        obtain ⟨ji33, hji33⟩ : ∃ j_ : Int, (wrap64 ((ji32) - 1)) = j_ := ⟨_, rfl⟩
                                        replace H : (if 0 ≤ (ji33) then (if (ji33) < (x6_3.length : Int) then (impl_foldStrip.l2 k3 a0 x4_2 (x6_3.set ((ji33) : Int).toNat 86) x37_2 (ji25) (a0.size : Int) x37_2 (rd_L2 x4_2 (ji18)) ((rd_L2 x4_2 (ji18)).length : Int) (wrap64 (x49_3 + 1))) else (none)) else (none)) = some (r1, r2) := by first | (rw [hji33] at H; exact H) | (simp only [hji33] at H ⊢; exact H)
                                        have hji33w : (IntKind.i64.wrap ((ji32) - 1)) = ji33 := (i64_w _).trans hji33
                                        by_cases c34 : 0 ≤ (ji33)
                                        · rw [if_pos c34] at H
                                          have c34b0 : decide (0 ≤ (ji33)) = true := decide_eq_true c34
                                          clear c34
                                          by_cases c35 : (ji33) < (x6_3.length : Int)
                                          · rw [if_pos c35] at H
                                            have c35b0 : decide ((ji33) < (x6_3.length : Int)) = true := decide_eq_true c35
                                            clear c35
                                            obtain ⟨y312, hy312⟩ : ∃ y_ : List Int, y_ = (x6_3.set ((ji33) : Int).toNat 86) := ⟨_, rfl⟩
                                            replace H : (impl_foldStrip.l2 k3 a0 x4_2 y312 x37_2 (ji25) (a0.size : Int) x37_2 (rd_L2 x4_2 (ji18)) ((rd_L2 x4_2 (ji18)).length : Int) (wrap64 (x49_3 + 1))) = some (r1, r2) := by first | (rw [hy312]; with_reducible exact H) | (have H2_ := (Option.bind_some _ _).symm.trans H; rw [hy312]; with_reducible exact H2_) | (have H2_ := (Option.bind_some _ _).symm.trans H; with_reducible exact H2_) | with_reducible exact H | (rw [hy312]; exact H) | exact H
                                            have Ny312 := Aside0.mk hy312
                                            clear hy312
                                            have H' := Aside0.mk H
                                            clear H
                                            have p309 : 0 ≤ (x49_3 : Int) := of_decide_eq_true (by first | (with_reducible assumption) | assumption)
                                            have q309 : x49_3 < ((rd_L2 x4_2 (ji18)).length : Int) := of_decide_eq_true (by first | (with_reducible assumption) | assumption)
                                            obtain ⟨ad309, e309, hx309_0⟩ := Kd.at_int (Kd.V_reads' HO_47.out).2.2 x49_3 p309 q309
                                            cases e309
                                            replace p309 := eq_true p309
                                            replace q309 := eq_true q309
                                            have p310 : 0 ≤ ((ji25) : Int) := of_decide_eq_true (by first | (with_reducible assumption) | assumption)
                                            have q310 : (ji25) < (x4_2.length : Int) := of_decide_eq_true (by first | (with_reducible assumption) | assumption)
                                            obtain ⟨ad310, A310_0, c310_0, e310, hx310_0, hl310_0, hi310_0⟩ := at_L2 (osl_C (Kd.N_reads' HO_4.out).2.2) (ji25) p310 q310
                                            obtain rfl : ad308 = ad310 := (by injection e310)
                                            obtain ⟨ce310, hce310, hMe310, hcc310⟩ := Kd.N_get HO_4.out [] (ji25) p310 (by first | exact q310 | exact of_decide_eq_true (by first | (with_reducible assumption) | assumption) | (have e_ := (Kd.N_reads' HO_4.out).1; omega))
                                            have hOWN310_ := Aside0.mk (osl_own hMe310)
                                            obtain ⟨ua310_0, uc310_0, rfl, ul310_0, ge310_0⟩ := Kd.FK_slice_open (osl_FK hMe310)
                                            have hv310_0 := hcc310 0 _ rfl
                                            rw [Nat.add_zero, show ((osl w.heap.size)).sz = 1 from rfl, Nat.mul_one] at hv310_0
                                            replace hv310_0 := Option.some.inj (hv310_0.symm.trans hx310_0)
                                            injection hv310_0 with hva_ hvn_ hvc_
                                            rw [hva_] at ge310_0
                                            rw [hvc_] at ul310_0
                                            have HL310_0 := Aside0.mk (show Kd.V (Kd.int .i64) 2 _ w.heap.size _ _ (rd_L2 x4_2 (ji25)) from Kd.V_mk ul310_0 ge310_0)
                                            clear hva_ hvn_ hvc_ ge310_0 ul310_0
                                            clear hcc310 hce310
                                            have HR310_0 := Aside0.mk hi310_0
                                            have HC310_0 := Aside0.mk hl310_0
                                            clear hi310_0 hl310_0
                                            replace p310 := eq_true p310
                                            replace q310 := eq_true q310
                                            have p311 : 0 ≤ (x49_3 : Int) := of_decide_eq_true (by first | (with_reducible assumption) | assumption)
                                            have q311 : x49_3 < ((rd_L2 x4_2 (ji25)).length : Int) := of_decide_eq_true (by first | (with_reducible assumption) | assumption)
                                            obtain ⟨ad311, e311, hx311_0⟩ := Kd.at_int (Kd.V_reads' HL310_0.out).2.2 x49_3 p311 q311
                                            cases e311
                                            replace p311 := eq_true p311
                                            replace q311 := eq_true q311
                                            have p36 : 0 ≤ ((ji33) : Int) := of_decide_eq_true (by first | (with_reducible assumption) | assumption)
                                            have q36 : ((ji33) : Int) < ((x6_3.length : Int) : Int) := of_decide_eq_true (by first | (with_reducible assumption) | assumption)
                                            obtain ⟨go36, co36, eo36, gb36, gl36, cl36, HG36⟩ := Kd.R_form HO_6.out (by omega)
                                            (first | cases eo36 | (injection eo36 with ea_ en_ ec_; (first | subst ea_ | (injection ea_ with ea_; subst ea_)); subst ec_; clear en_))
                                            have GB36 := Aside0.mk gb36
                                            have GG36 := Aside0.mk HG36
                                            clear gb36 gl36 HG36
                                            obtain ⟨hx36_0, hf36_0⟩ := Kd.R_celln 0 HO_6.out ((ji33) : Int) p36 q36
                                            replace p36 := eq_true p36
                                            replace q36 := eq_true q36
                                            have HP37 := Kd.R_putg HO_6.out ((ji33) : Int) 86
                                            go_wp2_with (first | ((with_reducible refine gate_store (t := 5) (p := 75) rfl ?_); refine store_event (t := 5) (p := 75) (v := ?vo_w38) (w1 := (wr.setCell ⟨go36, ((ji33) : Int).toNat, none⟩ (.int .u8 86))) ?hg ?ho ?hn ?hr ?_; (case ho => rfl); (case hg => rfl); (case hn => rfl); (case hr => first | (go_simp; done) | (go_simp; rfl)); intro w38 hw; have hg : wr.grownBy w38 (some go36) := (by rw [hw]; exact HP37.2); have hp_ : Kd.R (Kd.int .u8) 5 w38 w.heap.size (fun k_ => (w.heap.size ≤ k_)) (.slice (some ⟨go36, 0, none⟩) x6_3.length co36) y312 := (by rw [hw, Ny312.out]; exact HP37.1); clear HP37; have n0_ := Aside0.mk (Kd.N_afterv (v := (.slice (some ⟨go36, 0, none⟩) x6_3.length co36)) (v1 := (.slice (some ⟨go36, 0, none⟩) x6_3.length co36)) (ok := (fun k_ => (w.heap.size ≤ k_))) (by (with_reducible repeat (first | apply Kd.N_alloc | apply Kd.N_drewN | apply Kd.N_drew)); exact HO_4.out) hg (.inl rfl)); have n1_ := Aside0.mk (hp_); have n2_ := Aside0.mk (Kd.V_afterv (v := (.slice (some ⟨go36, 0, none⟩) x6_3.length co36)) (v1 := (.slice (some ⟨go36, 0, none⟩) x6_3.length co36)) (ok := (fun k_ => (w.heap.size ≤ k_) ∧ some k_ ≠ (.slice (some ad308) x4_2.length co21 : Value).ownBlock)) (by (with_reducible repeat (first | apply Kd.V_alloc | apply Kd.V_drewN | apply Kd.V_drew)); exact Kd.V_mono HO_47.out (fun _ hk => ⟨⟨hk.1, hk.2.1⟩, hk.2.2⟩)) hg (.inl rfl)); have n3_ := Aside0.mk (Kd.V_afterv (v := (.slice (some ⟨go36, 0, none⟩) x6_3.length co36)) (v1 := (.slice (some ⟨go36, 0, none⟩) x6_3.length co36)) (ok := (fun k_ => (w.heap.size ≤ k_) ∧ some k_ ≠ (.slice (some ad308) x4_2.length co21 : Value).ownBlock)) (by (with_reducible repeat (first | apply Kd.V_alloc | apply Kd.V_drewN | apply Kd.V_drew)); exact Kd.V_mono HL310_0.out (fun _ hk => ⟨⟨hk.1.1, hk.2⟩, hk.1.2⟩)) hg (.inl rfl)); have n4_ := Aside0.mk ((by rw [hw]; exact below_set (HB.out) GB36.out : Below w.heap.size w w38)); clear HO_4; clear HO_6; clear HO_47; clear HL310_0; clear HB; have HO_4 := n0_; have HO_6 := n1_; have HO_47 := n2_; have HL310_0 := n3_; have HB := n4_; clear n0_ n1_ n2_ n3_ n4_; clear hg hw hp_))
                                            (try subst hji25)
                                            go_roundg k3
                                            case measure => have := HK1.out; have := HK2.out; have := HK3.out; omega
                                            case rel => exact ⟨(y312), (wrap64 (x49_3 + 1)), (by first | rfl | (simp; done) | (simp [*]; done)), H', ⟨by have := HK1.out; have := HK2.out; have := HK3.out; omega⟩, ⟨by (with_reducible repeat (first | apply Kd.N_alloc | apply Kd.N_drewN | apply Kd.N_drew)); exact HO_4.out⟩, ⟨by (with_reducible repeat (first | apply Kd.R_alloc | apply Kd.R_drewN | apply Kd.R_drew)); exact HO_6.out⟩, ⟨by (with_reducible repeat (first | apply Kd.V_alloc | apply Kd.V_drewN | apply Kd.V_drew)); exact Kd.V_mono HO_47.out (fun _ hk => ⟨hk.1.1, ⟨hk.1.2, hk.2⟩⟩)⟩, ⟨by repeat (first | (with_reducible first | exact HB.out | apply below_alloc | apply pw_below_drewN | apply below_drew1) | exact HB.out)⟩⟩
                                          · rw [if_neg c35] at H
                                            exact absurd H (by simp)
                                        · rw [if_neg c34] at H
                                          exact absurd H (by simp)
                                      · rw [if_neg c29] at H
                                        have c29b0 : decide (0 < (rd (rd_L2 x4_2 (ji18)) x49_3)) = false := decide_eq_false c29
                                        clear c29
                                        obtain ⟨ji39, hji39⟩ : ∃ j_ : Int, (mx (rd (rd_L2 x4_2 (ji18)) x49_3) (wrap64 (-(rd (rd_L2 x4_2 (ji18)) x49_3)))) = j_ := ⟨_, rfl⟩
                                        replace H : (if 0 ≤ (wrap64 ((mn (ji39) (mx (rd (rd_L2 x4_2 (ji25)) x49_3) (wrap64 (-(rd (rd_L2 x4_2 (ji25)) x49_3))))) - 1)) then (if (wrap64 ((mn (ji39) (mx (rd (rd_L2 x4_2 (ji25)) x49_3) (wrap64 (-(rd (rd_L2 x4_2 (ji25)) x49_3))))) - 1)) < (x6_3.length : Int) then (impl_foldStrip.l2 k3 a0 x4_2 (x6_3.set ((wrap64 ((mn (ji39) (mx (rd (rd_L2 x4_2 (ji25)) x49_3) (wrap64 (-(rd (rd_L2 x4_2 (ji25)) x49_3))))) - 1)) : Int).toNat 77) x37_2 (ji25) (a0.size : Int) x37_2 (rd_L2 x4_2 (ji18)) ((rd_L2 x4_2 (ji18)).length : Int) (wrap64 (x49_3 + 1))) else (none)) else (none)) = some (r1, r2) := by first | (rw [hji39] at H; exact H) | (simp only [hji39] at H ⊢; exact H)
                                        have hji39_ : (if (rd (rd_L2 x4_2 (ji18)) x49_3) < (wrap64 (-(rd (rd_L2 x4_2 (ji18)) x49_3))) then (wrap64 (-(rd (rd_L2 x4_2 (ji18)) x49_3))) else (rd (rd_L2 x4_2 (ji18)) x49_3)) = ji39 := hji39
                                        obtain ⟨ji40, hji40⟩ : ∃ j_ : Int, (mx (rd (rd_L2 x4_2 (ji25)) x49_3) (wrap64 (-(rd (rd_L2 x4_2 (ji25)) x49_3)))) = j_ := ⟨_, rfl⟩
                                        replace H : (if 0 ≤ (wrap64 ((mn (ji39) (ji40)) - 1)) then (if (wrap64 ((mn (ji39) (ji40)) - 1)) < (x6_3.length : Int) then (impl_foldStrip.l2 k3 a0 x4_2 (x6_3.set ((wrap64 ((mn (ji39) (ji40)) - 1)) : Int).toNat 77) x37_2 (ji25) (a0.size : Int) x37_2 (rd_L2 x4_2 (ji18)) ((rd_L2 x4_2 (ji18)).length : Int) (wrap64 (x49_3 + 1))) else (none)) else (none)) = some (r1, r2) := by first | (rw [hji40] at H; exact H) | (simp only [hji40] at H ⊢; exact H)
                                        have hji40_ : (if (rd (rd_L2 x4_2 (ji25)) x49_3) < (wrap64 (-(rd (rd_L2 x4_2 (ji25)) x49_3))) then (wrap64 (-(rd (rd_L2 x4_2 (ji25)) x49_3))) else (rd (rd_L2 x4_2 (ji25)) x49_3)) = ji40 := hji40
                                        obtain ⟨ji41, hji41⟩ : ∃ j_ : Int, (mn (ji39) (ji40)) = j_ := ⟨_, rfl⟩
                                        replace H : (if 0 ≤ (wrap64 ((ji41) - 1)) then (if (wrap64 ((ji41) - 1)) < (x6_3.length : Int) then (impl_foldStrip.l2 k3 a0 x4_2 (x6_3.set ((wrap64 ((ji41) - 1)) : Int).toNat 77) x37_2 (ji25) (a0.size : Int) x37_2 (rd_L2 x4_2 (ji18)) ((rd_L2 x4_2 (ji18)).length : Int) (wrap64 (x49_3 + 1))) else (none)) else (none)) = some (r1, r2) := by first | (rw [hji41] at H; exact H) | (simp only [hji41] at H ⊢; exact H)
                                        have hji41_ : (if (ji40) < (ji39) then (ji40) else (ji39)) = ji41 := hji41
                                        obtain ⟨ji42, hji42⟩ : ∃ j_ : Int, (wrap64 ((ji41) - 1)) = j_ := ⟨_, rfl⟩
                                        replace H : (if 0 ≤ (ji42) then (if (ji42) < (x6_3.length : Int) then (impl_foldStrip.l2 k3 a0 x4_2 (x6_3.set ((ji42) : Int).toNat 77) x37_2 (ji25) (a0.size : Int) x37_2 (rd_L2 x4_2 (ji18)) ((rd_L2 x4_2 (ji18)).length : Int) (wrap64 (x49_3 + 1))) else (none)) else (none)) = some (r1, r2) := by first | (rw [hji42] at H; exact H) | (simp only [hji42] at H ⊢; exact H)
                                        have hji42w : (IntKind.i64.wrap ((ji41) - 1)) = ji42 := (i64_w _).trans hji42
                                        by_cases c43 : 0 ≤ (ji42)
                                        · rw [if_pos c43] at H
                                          have c43b0 : decide (0 ≤ (ji42)) = true := decide_eq_true c43
                                          clear c43
                                          by_cases c44 : (ji42) < (x6_3.length : Int)
                                          · rw [if_pos c44] at H
                                            have c44b0 : decide ((ji42) < (x6_3.length : Int)) = true := decide_eq_true c44
                                            clear c44
                                            obtain ⟨y313, hy313⟩ : ∃ y_ : List Int, y_ = (x6_3.set ((ji42) : Int).toNat 77) := ⟨_, rfl⟩
                                            replace H : (impl_foldStrip.l2 k3 a0 x4_2 y313 x37_2 (ji25) (a0.size : Int) x37_2 (rd_L2 x4_2 (ji18)) ((rd_L2 x4_2 (ji18)).length : Int) (wrap64 (x49_3 + 1))) = some (r1, r2) := by first | (rw [hy313]; with_reducible exact H) | (have H2_ := (Option.bind_some _ _).symm.trans H; rw [hy313]; with_reducible exact H2_) | (have H2_ := (Option.bind_some _ _).symm.trans H; with_reducible exact H2_) | with_reducible exact H | (rw [hy313]; exact H) | exact H
                                            have Ny313 := Aside0.mk hy313
                                            clear hy313
                                            have H' := Aside0.mk H
                                            clear H
                                            have p309 : 0 ≤ (x49_3 : Int) := of_decide_eq_true (by first | (with_reducible assumption) | assumption)
                                            have q309 : x49_3 < ((rd_L2 x4_2 (ji18)).length : Int) := of_decide_eq_true (by first | (with_reducible assumption) | assumption)
                                            obtain ⟨ad309, e309, hx309_0⟩ := Kd.at_int (Kd.V_reads' HO_47.out).2.2 x49_3 p309 q309
                                            cases e309
                                            replace p309 := eq_true p309
                                            replace q309 := eq_true q309
                                            have p310 : 0 ≤ ((ji25) : Int) := of_decide_eq_true (by first | (with_reducible assumption) | assumption)
                                            have q310 : (ji25) < (x4_2.length : Int) := of_decide_eq_true (by first | (with_reducible assumption) | assumption)
                                            obtain ⟨ad310, A310_0, c310_0, e310, hx310_0, hl310_0, hi310_0⟩ := at_L2 (osl_C (Kd.N_reads' HO_4.out).2.2) (ji25) p310 q310
                                            obtain rfl : ad308 = ad310 := (by injection e310)
                                            obtain ⟨ce310, hce310, hMe310, hcc310⟩ := Kd.N_get HO_4.out [] (ji25) p310 (by first | exact q310 | exact of_decide_eq_true (by first | (with_reducible assumption) | assumption) | (have e_ := (Kd.N_reads' HO_4.out).1; omega))
                                            have hOWN310_ := Aside0.mk (osl_own hMe310)
                                            obtain ⟨ua310_0, uc310_0, rfl, ul310_0, ge310_0⟩ := Kd.FK_slice_open (osl_FK hMe310)
                                            have hv310_0 := hcc310 0 _ rfl
                                            rw [Nat.add_zero, show ((osl w.heap.size)).sz = 1 from rfl, Nat.mul_one] at hv310_0
                                            replace hv310_0 := Option.some.inj (hv310_0.symm.trans hx310_0)
                                            injection hv310_0 with hva_ hvn_ hvc_
                                            rw [hva_] at ge310_0
                                            rw [hvc_] at ul310_0
                                            have HL310_0 := Aside0.mk (show Kd.V (Kd.int .i64) 2 _ w.heap.size _ _ (rd_L2 x4_2 (ji25)) from Kd.V_mk ul310_0 ge310_0)
                                            clear hva_ hvn_ hvc_ ge310_0 ul310_0
                                            clear hcc310 hce310
                                            have HR310_0 := Aside0.mk hi310_0
                                            have HC310_0 := Aside0.mk hl310_0
                                            clear hi310_0 hl310_0
                                            replace p310 := eq_true p310
                                            replace q310 := eq_true q310
                                            have p311 : 0 ≤ (x49_3 : Int) := of_decide_eq_true (by first | (with_reducible assumption) | assumption)
                                            have q311 : x49_3 < ((rd_L2 x4_2 (ji25)).length : Int) := of_decide_eq_true (by first | (with_reducible assumption) | assumption)
                                            obtain ⟨ad311, e311, hx311_0⟩ := Kd.at_int (Kd.V_reads' HL310_0.out).2.2 x49_3 p311 q311
                                            cases e311
                                            replace p311 := eq_true p311
                                            replace q311 := eq_true q311
                                            have p45 : 0 ≤ ((ji42) : Int) := of_decide_eq_true (by first | (with_reducible assumption) | assumption)
                                            have q45 : ((ji42) : Int) < ((x6_3.length : Int) : Int) := of_decide_eq_true (by first | (with_reducible assumption) | assumption)
                                            obtain ⟨go45, co45, eo45, gb45, gl45, cl45, HG45⟩ := Kd.R_form HO_6.out (by omega)
                                            (first | cases eo45 | (injection eo45 with ea_ en_ ec_; (first | subst ea_ | (injection ea_ with ea_; subst ea_)); subst ec_; clear en_))
                                            have GB45 := Aside0.mk gb45
                                            have GG45 := Aside0.mk HG45
                                            clear gb45 gl45 HG45
                                            obtain ⟨hx45_0, hf45_0⟩ := Kd.R_celln 0 HO_6.out ((ji42) : Int) p45 q45
                                            replace p45 := eq_true p45
                                            replace q45 := eq_true q45
                                            have HP46 := Kd.R_putg HO_6.out ((ji42) : Int) 77
                                            go_wp2_with (first | ((with_reducible refine gate_store (t := 5) (p := 75) rfl ?_); refine store_event (t := 5) (p := 75) (v := ?vo_w47) (w1 := (wr.setCell ⟨go45, ((ji42) : Int).toNat, none⟩ (.int .u8 77))) ?hg ?ho ?hn ?hr ?_; (case ho => rfl); (case hg => rfl); (case hn => rfl); (case hr => first | (go_simp; done) | (go_simp; rfl)); intro w47 hw; have hg : wr.grownBy w47 (some go45) := (by rw [hw]; exact HP46.2); have hp_ : Kd.R (Kd.int .u8) 5 w47 w.heap.size (fun k_ => (w.heap.size ≤ k_)) (.slice (some ⟨go45, 0, none⟩) x6_3.length co45) y313 := (by rw [hw, Ny313.out]; exact HP46.1); clear HP46; have n0_ := Aside0.mk (Kd.N_afterv (v := (.slice (some ⟨go45, 0, none⟩) x6_3.length co45)) (v1 := (.slice (some ⟨go45, 0, none⟩) x6_3.length co45)) (ok := (fun k_ => (w.heap.size ≤ k_))) (by (with_reducible repeat (first | apply Kd.N_alloc | apply Kd.N_drewN | apply Kd.N_drew)); exact HO_4.out) hg (.inl rfl)); have n1_ := Aside0.mk (hp_); have n2_ := Aside0.mk (Kd.V_afterv (v := (.slice (some ⟨go45, 0, none⟩) x6_3.length co45)) (v1 := (.slice (some ⟨go45, 0, none⟩) x6_3.length co45)) (ok := (fun k_ => (w.heap.size ≤ k_) ∧ some k_ ≠ (.slice (some ad308) x4_2.length co21 : Value).ownBlock)) (by (with_reducible repeat (first | apply Kd.V_alloc | apply Kd.V_drewN | apply Kd.V_drew)); exact Kd.V_mono HO_47.out (fun _ hk => ⟨⟨hk.1, hk.2.1⟩, hk.2.2⟩)) hg (.inl rfl)); have n3_ := Aside0.mk (Kd.V_afterv (v := (.slice (some ⟨go45, 0, none⟩) x6_3.length co45)) (v1 := (.slice (some ⟨go45, 0, none⟩) x6_3.length co45)) (ok := (fun k_ => (w.heap.size ≤ k_) ∧ some k_ ≠ (.slice (some ad308) x4_2.length co21 : Value).ownBlock)) (by (with_reducible repeat (first | apply Kd.V_alloc | apply Kd.V_drewN | apply Kd.V_drew)); exact Kd.V_mono HL310_0.out (fun _ hk => ⟨⟨hk.1.1, hk.2⟩, hk.1.2⟩)) hg (.inl rfl)); have n4_ := Aside0.mk ((by rw [hw]; exact below_set (HB.out) GB45.out : Below w.heap.size w w47)); clear HO_4; clear HO_6; clear HO_47; clear HL310_0; clear HB; have HO_4 := n0_; have HO_6 := n1_; have HO_47 := n2_; have HL310_0 := n3_; have HB := n4_; clear n0_ n1_ n2_ n3_ n4_; clear hg hw hp_))
                                            (try subst hji25)
                                            go_roundg k3
                                            case measure => have := HK1.out; have := HK2.out; have := HK3.out; omega
                                            case rel => exact ⟨(y313), (wrap64 (x49_3 + 1)), (by first | rfl | (simp; done) | (simp [*]; done)), H', ⟨by have := HK1.out; have := HK2.out; have := HK3.out; omega⟩, ⟨by (with_reducible repeat (first | apply Kd.N_alloc | apply Kd.N_drewN | apply Kd.N_drew)); exact HO_4.out⟩, ⟨by (with_reducible repeat (first | apply Kd.R_alloc | apply Kd.R_drewN | apply Kd.R_drew)); exact HO_6.out⟩, ⟨by (with_reducible repeat (first | apply Kd.V_alloc | apply Kd.V_drewN | apply Kd.V_drew)); exact Kd.V_mono HO_47.out (fun _ hk => ⟨hk.1.1, ⟨hk.1.2, hk.2⟩⟩)⟩, ⟨by repeat (first | (with_reducible first | exact HB.out | apply below_alloc | apply pw_below_drewN | apply below_drew1) | exact HB.out)⟩⟩
                                          · rw [if_neg c44] at H
                                            exact absurd H (by simp)
                                        · rw [if_neg c43] at H
                                          exact absurd H (by simp)
                                    · rw [if_neg c28] at H
                                      exact absurd H (by simp)
                                  · rw [if_neg c27] at H
                                    exact absurd H (by simp)
                                · rw [if_neg c26] at H
                                  exact absurd H (by simp)
                              · rw [if_neg c24] at H
                                exact absurd H (by simp)
                            · rw [if_neg c23] at H
                              exact absurd H (by simp)
                          · rw [if_neg c22] at H
                            have c22b0 : decide (x49_3 < ((rd_L2 x4_2 (ji18)).length : Int)) = false := decide_eq_false c22
                            clear c22
                            obtain ⟨ji48, hji48⟩ : ∃ j_ : Int, (wrap64 ((x4_2.length : Int) / 2)) = j_ := ⟨_, rfl⟩
                            replace H : (if 0 ≤ (ji48) then (if (ji48) ≤ (x4_2.length : Int) then ((some (x4_2.drop ((ji48) : Int).toNat : List (List Int))).bind fun y314 => ((some (x4_2.take ((ji48) : Int).toNat : List (List Int))).bind fun y319 => (if 0 ≤ x37_2 then (if x37_2 < (a0.size : Int) then (if (bt a0 x37_2) = 82 then (impl_foldStrip.j3 k3 a0 x6_3 (ji48) y319 y314 (a0.size : Int) x37_2) else (impl_foldStrip.j3 k3 a0 x6_3 (ji48) y314 y319 (a0.size : Int) x37_2)) else (none)) else (none)))) else (none)) else (none)) = some (r1, r2) := by first | (rw [hji48] at H; exact H) | (simp only [hji48] at H ⊢; exact H)
                            have hji48w : (IntKind.i64.wrap ((x4_2.length : Int) / 2)) = ji48 := (i64_w _).trans hji48
                            try have hji18xji48_1 : (wrap64 (ji48 - 1)) = ji18 := by (first | (have e_ := hji18; rw [hji48] at e_; first | exact e_ | exact (i64_w _).trans e_) | (have e_ := hji18w; rw [hji48] at e_; exact e_))
                            try have hji18xji48_2 : (IntKind.i64.wrap (ji48 - 1)) = ji18 := by (first | (have e_ := hji18; rw [hji48] at e_; first | exact e_ | exact (i64_w _).trans e_) | (have e_ := hji18w; rw [hji48] at e_; exact e_))
                            by_cases c49 : 0 ≤ (ji48)
                            · rw [if_pos c49] at H
                              have c49b0 := eq_true c49
                              have c49b1 : decide (0 ≤ (ji48)) = true := decide_eq_true c49
                              clear c49
                              by_cases c50 : (ji48) ≤ (x4_2.length : Int)
                              · rw [if_pos c50] at H
                                have c50b0 := eq_true c50
                                have c50b1 : decide ((ji48) ≤ (x4_2.length : Int)) = true := decide_eq_true c50
                                clear c50
                                obtain ⟨y314, hy314⟩ : ∃ y_ : List (List Int), y_ = (x4_2.drop ((ji48) : Int).toNat) := ⟨_, rfl⟩
                                replace H : ((some (x4_2.take ((ji48) : Int).toNat : List (List Int))).bind fun y319 => (if 0 ≤ x37_2 then (if x37_2 < (a0.size : Int) then (if (bt a0 x37_2) = 82 then (impl_foldStrip.j3 k3 a0 x6_3 (ji48) y319 y314 (a0.size : Int) x37_2) else (impl_foldStrip.j3 k3 a0 x6_3 (ji48) y314 y319 (a0.size : Int) x37_2)) else (none)) else (none))) = some (r1, r2) := by first | (rw [hy314]; with_reducible exact H) | (have H2_ := (Option.bind_some _ _).symm.trans H; rw [hy314]; with_reducible exact H2_) | (have H2_ := (Option.bind_some _ _).symm.trans H; with_reducible exact H2_) | with_reducible exact H | (rw [hy314]; exact H) | exact H
                                have Ny314 := Aside0.mk hy314
                                clear hy314
                                have c51b0 := eq_true (of_decide_eq_true (by first | (with_reducible assumption) | assumption) : 0 ≤ (ji48))
                                have c52b0 := eq_true (of_decide_eq_true (by first | (with_reducible assumption) | assumption) : (ji48) ≤ (x4_2.length : Int))
                                obtain ⟨y319, hy319⟩ : ∃ y_ : List (List Int), y_ = (x4_2.take ((ji48) : Int).toNat) := ⟨_, rfl⟩
                                replace H : (if 0 ≤ x37_2 then (if x37_2 < (a0.size : Int) then (if (bt a0 x37_2) = 82 then (impl_foldStrip.j3 k3 a0 x6_3 (ji48) y319 y314 (a0.size : Int) x37_2) else (impl_foldStrip.j3 k3 a0 x6_3 (ji48) y314 y319 (a0.size : Int) x37_2)) else (none)) else (none)) = some (r1, r2) := by first | (rw [hy319]; with_reducible exact H) | (have H2_ := (Option.bind_some _ _).symm.trans H; rw [hy319]; with_reducible exact H2_) | (have H2_ := (Option.bind_some _ _).symm.trans H; with_reducible exact H2_) | with_reducible exact H | (rw [hy319]; exact H) | exact H
                                have Ny319 := Aside0.mk hy319
                                clear hy319
                                by_cases c53 : 0 ≤ x37_2
                                · rw [if_pos c53] at H
                                  have c53b0 : decide (0 ≤ x37_2) = true := decide_eq_true c53
                                  clear c53
                                  by_cases c54 : x37_2 < (a0.size : Int)
                                  · rw [if_pos c54] at H
                                    have c54b0 : decide (x37_2 < (a0.size : Int)) = true := decide_eq_true c54
                                    clear c54
                                    have HC56 := Aside0.mk H
                                    clear H
                                    try go_wp2
                                    have n0_ := Aside0.mk (Kd.N_drew HO_4.out)
                                    have n1_ := Aside0.mk (Kd.R_drew HO_6.out)
                                    have n2_ := Aside0.mk (Kd.V_drew HO_47.out)
                                    have n3_ := Aside0.mk (below_drew1 HB.out)
                                    clear HO_4
                                    clear HO_6
                                    clear HO_47
                                    clear HB
                                    have HO_4 := n0_
                                    have HO_6 := n1_
                                    have HO_47 := n2_
                                    have HB := n3_
                                    clear n0_ n1_ n2_ n3_
                                    have q58 : ((ji48) : Int) ≤ ((x4_2.length : Int) : Int) := of_decide_eq_true (by first | (with_reducible assumption) | assumption)
                                    obtain ⟨i058, hi058, _, hsz58, _⟩ := info_parts info27
                                    have hroom58 : x4_2.length ≤ co21 := (Kd.N_reads' HO_4.out).2.1
                                    have hC58 : Kd.F (osl w.heap.size) _ _ (some ad308) x4_2.length x4_2 := (Kd.V_at (base := w.heap.size) (Kd.N_V HO_4.out)).2.2
                                    have q058 : (0 : Int) ≤ ((ji48) : Int) := of_decide_eq_true (by first | (with_reducible assumption) | assumption)
                                    have hcut58 := cut_from (P := Tryz.prog) 64 27 .i64 Tryz.underlying64 hi058 1 hsz58 (some ad308) x4_2.length co21 (ji48) q058 q58
                                    have hr58 := Kd.F_cut (m := ((ji48) : Int).toNat) (c := co21) hC58 (by omega) hroom58
                                    obtain ⟨A58, hA58⟩ : ∃ A1, A1 = (if co21 = ((ji48) : Int).toNat then (some ad308) else ((some ad308) : Option Addr).map (·.add (((ji48) : Int).toNat * 1))) := ⟨_, rfl⟩
                                    obtain ⟨c58, hc58⟩ : ∃ c1, c1 = co21 - ((ji48) : Int).toNat := ⟨_, rfl⟩
                                    have hy58 : y314.length = x4_2.length - ((ji48) : Int).toNat := (by rw [Ny314.out, List.length_drop] <;> omega)
                                    rw [show (x4_2).drop ((ji48) : Int).toNat = y314 from Ny314.out.symm] at hr58
                                    replace hr58 : Kd.F (osl w.heap.size) _ _ A58 y314.length y314 := (by rw [hA58]; exact hr58)
                                    rw [← hy58, ← hA58, ← hc58] at hcut58
                                    have HO318 := Aside0.mk (show Kd.V (osl w.heap.size) 27 _ w.heap.size _ (.slice A58 y314.length c58) y314 from Kd.V_mk (by rw [hy58, hc58]; exact Nat.sub_le_sub_right hroom58 _) hr58)
                                    have HC318 := Aside0.mk (show y314.length ≤ c58 from by rw [hy58, hc58]; exact Nat.sub_le_sub_right hroom58 _)
                                    clear hr58 hC58 hroom58 hi058 hsz58 hc58
                                    have KY58 := Aside0.mk hy58
                                    have KA58 := Aside0.mk hA58
                                    clear hy58 hA58
                                    replace q58 := eq_true q58
                                    have q59 : ((ji48) : Int) ≤ ((x4_2.length : Int) : Int) := of_decide_eq_true (by first | (with_reducible assumption) | assumption)
                                    obtain ⟨i059, hi059, _, hsz59, _⟩ := info_parts info27
                                    have hroom59 : x4_2.length ≤ co21 := (Kd.N_reads' HO_4.out).2.1
                                    have hC59 : Kd.F (osl w.heap.size) _ _ (some ad308) x4_2.length x4_2 := (Kd.V_at (base := w.heap.size) (Kd.N_V HO_4.out)).2.2
                                    have hcut59 := cut_to (P := Tryz.prog) 64 27 .i64 Tryz.underlying64 hi059 (some ad308) x4_2.length co21 (ji48) (of_decide_eq_true (by first | (with_reducible assumption) | assumption)) q59 hroom59
                                    have hr59 := Kd.F_take (m := ((ji48) : Int).toNat) hC59 (by omega)
                                    have hy59 : y319.length = ((ji48) : Int).toNat := (by rw [Ny319.out, List.length_take]; omega)
                                    rw [← Ny319.out] at hr59
                                    rw [← hy59] at hcut59
                                    have HO323 := Aside0.mk (show Kd.V (osl w.heap.size) 27 _ w.heap.size _ (.slice (some ad308) y319.length co21) y319 from Kd.V_mk (by omega) hr59)
                                    have HC323 := Aside0.mk (show y319.length ≤ co21 from by omega)
                                    clear hr59 hC59 hroom59 hi059 hsz59
                                    have KY59 := Aside0.mk hy59
                                    clear hy59
                                    replace q59 := eq_true q59
                                    refine start_ (n := 8) (S := fun w' => True) (ds := []) #[false, false, false, false, false, false, false, false] (by kernel_rfl) rfl rfl trivial (fun hHeld => ?_); refine with_tabW impl_foldStrip.tab21 impl_foldStrip.bits21 (fun HT_ HW_ => ?_)
                                    generalize wr.drew = w57 at HO_4 HO_6 HO_47 HB HO318 HO323 hHeld ⊢
                                    refine pure_ (i := 0) (N := some 77) (v := ?_) (a' := ?_) #[true, false, false, false, false, false, false, false] rfl rfl (any_of HT_.out (by kernel_rfl)) (fun _ _ _ h => h) (Or.inl ⟨by rfl, ?_⟩) ?_ ?_
                                    rotate_left
                                    · intro w'
                                      go_simp
                                      with_reducible rfl
                                    rotate_left
                                    · simp only [Act.put, List.setIfInBounds_toArray, List.set_cons_zero, List.set_cons_succ, i64_w, i32_w]
                                      rfl
                                    refine pure_ (i := 1) (N := some 78) (v := ?_) (a' := ?_) #[true, true, false, false, false, false, false, false] rfl rfl (any_of HT_.out (by kernel_rfl)) (fun _ _ _ h => h) (Or.inl ⟨by rfl, ?_⟩) ?_ ?_
                                    rotate_left
                                    · intro w'
                                      go_simp
                                      with_reducible rfl
                                    rotate_left
                                    · simp only [Act.put, List.setIfInBounds_toArray, List.set_cons_zero, List.set_cons_succ, i64_w, i32_w]
                                      rfl
                                    refine pure_ (i := 2) (N := some 79) (v := ?_) (a' := ?_) #[true, true, true, false, false, false, false, false] rfl rfl (any_of HT_.out (by kernel_rfl)) (fun _ _ _ h => h) (Or.inl ⟨by rfl, ?_⟩) ?_ ?_
                                    rotate_left
                                    · intro w'
                                      go_simp
                                      with_reducible rfl
                                    rotate_left
                                    · simp only [Act.put, List.setIfInBounds_toArray, List.set_cons_zero, List.set_cons_succ, i64_w, i32_w]
                                      rfl
                                    refine pure_ (i := 3) (N := some 80) (v := ?_) (a' := ?_) #[true, true, true, true, false, false, false, false] rfl rfl (any_of HT_.out (by kernel_rfl)) (fun _ _ _ h => h) (Or.inl ⟨by rfl, ?_⟩) ?_ ?_
                                    rotate_left
                                    · intro w'
                                      go_simp
                                      with_reducible rfl
                                    rotate_left
                                    · simp only [Act.put, List.setIfInBounds_toArray, List.set_cons_zero, List.set_cons_succ, i64_w, i32_w]
                                      rfl
                                    refine pure_ (i := 4) (N := some 81) (v := ?_) (a' := ?_) #[true, true, true, true, true, false, false, false] rfl rfl (any_of HT_.out (by kernel_rfl)) (fun _ _ _ h => h) (Or.inl ⟨by rfl, ?_⟩) ?_ ?_
                                    rotate_left
                                    · intro w'
                                      go_simp
                                      with_reducible rfl
                                    rotate_left
                                    · simp only [Act.put, List.setIfInBounds_toArray, List.set_cons_zero, List.set_cons_succ, i64_w, i32_w]
                                      rfl
                                    refine pure_ (i := 5) (N := some 82) (v := ?_) (a' := ?_) #[true, true, true, true, true, true, false, false] rfl rfl (any_of HT_.out (by kernel_rfl)) (fun _ _ _ h => h) (Or.inl ⟨by rfl, ?_⟩) ?_ ?_
                                    rotate_left
                                    · intro w'
                                      go_simp
                                      with_reducible rfl
                                    rotate_left
                                    · simp only [Act.put, List.setIfInBounds_toArray, List.set_cons_zero, List.set_cons_succ, i64_w, i32_w]
                                      rfl
                                    refine pure_ (i := 6) (N := some 13) (v := ?_) (a' := ?_) #[true, true, true, true, true, true, true, false] rfl rfl (any_of HT_.out (by kernel_rfl)) (fun _ _ _ h => h) (Or.inl ⟨by rfl, ?_⟩) ?_ ?_
                                    rotate_left
                                    · intro w'
                                      go_simp
                                      with_reducible rfl
                                    rotate_left
                                    · simp only [Act.put, List.setIfInBounds_toArray, List.set_cons_zero, List.set_cons_succ, i64_w, i32_w]
                                      rfl
                                    refine pure_ (i := 7) (N := some 14) (v := ?_) (a' := ?_) #[true, true, true, true, true, true, true, true] rfl rfl (any_of HT_.out (by kernel_rfl)) (fun _ _ _ h => h) (Or.inl ⟨by rfl, ?_⟩) ?_ ?_
                                    rotate_left
                                    · intro w'
                                      go_simp
                                      with_reducible rfl
                                    rotate_left
                                    · simp only [Act.put, List.setIfInBounds_toArray, List.set_cons_zero, List.set_cons_succ, i64_w, i32_w]
                                      rfl
                                    refine done_ (done_of HT_.out (by kernel_rfl)) ?_
                                    have p55 : 0 ≤ (x37_2 : Int) := of_decide_eq_true (by first | (with_reducible assumption) | assumption)
                                    have q55 : x37_2 < (a0.size : Int) := of_decide_eq_true (by first | (with_reducible assumption) | assumption)
                                    have hx55 := bt_at a0 x37_2
                                    replace p55 := eq_true p55
                                    replace q55 := eq_true q55
                                    go_upto_if 86 with (fail)
                                    go_cut [13, 14] (fun v13 v14 wc => ∃ (kq : Nat) (x13_55 : List (List Int)) (x14_55 : List (List Int)), Aside0 (impl_foldStrip.j3 kq a0 x6_3 (ji48) x13_55 x14_55 (a0.size : Int) x37_2 = some (r1, r2)) ∧ Aside0 (kq ≤ k3) ∧ Aside0 (Kd.R (Kd.int .u8) 5 wc w.heap.size (fun k_ => (w.heap.size ≤ k_)) v305 x6_3) ∧ Aside0 (Kd.V (osl w.heap.size) 27 wc w.heap.size (fun k_ => (w.heap.size ≤ k_) ∧ some k_ ≠ (v305 : Value).ownBlock) v13 x13_55) ∧ Aside0 (Kd.V (osl w.heap.size) 27 wc w.heap.size (fun k_ => (w.heap.size ≤ k_) ∧ some k_ ≠ (v305 : Value).ownBlock) v14 x14_55) ∧ Aside0 (Below w.heap.size w wc))
                                    case first =>
                                      have H := HC56.out
                                      clear HC56
                                      by_cases c60 : (bt a0 x37_2) = 82
                                      · rw [if_pos c60] at H
                                        have c60b0 : ((bt a0 x37_2) == 82) = true := beq_iff_eq.mpr c60
                                        have c60b1 : ((bt a0 x37_2) != 82) = false := bne_eq_false_iff_eq.mpr c60
                                        clear c60
                                        (first | rw [c60b0] | (simp only [i64_w, i32_w]; rw [c60b0]) | skip)
                                        have H' := Aside0.mk H
                                        clear H
                                        go_wp2
                                        go_meet
                                        case rel => exact ⟨_, (y319), (y314), H', ⟨by have := HK1.out; have := HK2.out; have := HK3.out; first | omega | exact Nat.le_refl _⟩, ⟨by (with_reducible repeat (first | apply Kd.R_alloc | apply Kd.R_drewN | apply Kd.R_drew)); exact HO_6.out⟩, ⟨by (with_reducible repeat (first | apply Kd.V_alloc | apply Kd.V_drewN | apply Kd.V_drew)); exact HO323.out⟩, ⟨by (with_reducible repeat (first | apply Kd.V_alloc | apply Kd.V_drewN | apply Kd.V_drew)); exact HO318.out⟩, ⟨by repeat (first | (with_reducible first | exact HB.out | apply below_alloc | apply pw_below_drewN | apply below_drew1) | exact HB.out)⟩⟩
                                      · rw [if_neg c60] at H
                                        have c60b0 : ((bt a0 x37_2) == 82) = false := beq_eq_false_iff_ne.mpr c60
                                        have c60b1 : ((bt a0 x37_2) != 82) = true := bne_iff_ne.mpr c60
                                        (first | rw [c60b0] | (simp only [i64_w, i32_w]; rw [c60b0]) | skip)
                                        have H' := Aside0.mk H
                                        clear H
                                        go_wp2
                                        go_meet
                                        case rel => exact ⟨_, (y314), (y319), H', ⟨by have := HK1.out; have := HK2.out; have := HK3.out; first | omega | exact Nat.le_refl _⟩, ⟨by (with_reducible repeat (first | apply Kd.R_alloc | apply Kd.R_drewN | apply Kd.R_drew)); exact HO_6.out⟩, ⟨by (with_reducible repeat (first | apply Kd.V_alloc | apply Kd.V_drewN | apply Kd.V_drew)); exact HO318.out⟩, ⟨by (with_reducible repeat (first | apply Kd.V_alloc | apply Kd.V_drewN | apply Kd.V_drew)); exact HO323.out⟩, ⟨by repeat (first | (with_reducible first | exact HB.out | apply below_alloc | apply pw_below_drewN | apply below_drew1) | exact HB.out)⟩⟩
                                    case rest =>
                                      clear HC56
                                      try clear c1
                                      try clear c2
                                      try clear p2
                                      try clear c3
                                      try clear p3
                                      try clear q3
                                      try clear hx3
                                      try clear hf3
                                      try clear c4
                                      try clear p4
                                      try clear q4
                                      try clear hx4
                                      try clear hf4
                                      try clear c5
                                      try clear c5b0
                                      try clear p5
                                      try clear q5
                                      try clear hx5
                                      try clear c6
                                      try clear p6
                                      try clear c12
                                      try clear c12b0
                                      try clear c12b1
                                      try clear c13
                                      try clear c13b0
                                      try clear c13b1
                                      try clear c17
                                      try clear c17b0
                                      try clear c19
                                      try clear c19b0
                                      try clear c20
                                      try clear c20b0
                                      try clear c22
                                      try clear c22b0
                                      try clear c23
                                      try clear c23b0
                                      try clear c24
                                      try clear c24b0
                                      try clear c26
                                      try clear c26b0
                                      try clear c27
                                      try clear c27b0
                                      try clear c28
                                      try clear c28b0
                                      try clear c29
                                      try clear c29b0
                                      try clear c30
                                      try clear p30
                                      try clear q30
                                      try clear hx30
                                      try clear c31
                                      try clear p31
                                      try clear q31
                                      try clear hx31
                                      try clear c34
                                      try clear c34b0
                                      try clear c35
                                      try clear c35b0
                                      try clear p36
                                      try clear q36
                                      try clear hx36
                                      try clear hf36
                                      try clear c43
                                      try clear c43b0
                                      try clear c44
                                      try clear c44b0
                                      try clear p45
                                      try clear q45
                                      try clear hx45
                                      try clear hf45
                                      try clear c49
                                      try clear c49b0
                                      try clear c49b1
                                      try clear c50
                                      try clear c50b0
                                      try clear c50b1
                                      try clear c51
                                      try clear c51b0
                                      try clear c52
                                      try clear c52b0
                                      try clear c53
                                      try clear c53b0
                                      try clear c54
                                      try clear c54b0
                                      try clear p55
                                      try clear q55
                                      try clear hx55
                                      try clear c58
                                      try clear q58
                                      try clear q59
                                      try clear c60
                                      try clear c60b0
                                      try clear c60b1
                                      try clear hx308_0
                                      try clear hx309_0
                                      try clear hx310_0
                                      try clear hx311_0
                                      try clear hx36_0
                                      try clear hx45_0
                                      try clear p2
                                      try clear p3
                                      try clear p308
                                      try clear p309
                                      try clear p310
                                      try clear p311
                                      try clear p36
                                      try clear p45
                                      try clear p55
                                      try clear p6
                                      try clear q058
                                      try clear q3
                                      try clear q308
                                      try clear q309
                                      try clear q310
                                      try clear q311
                                      try clear q36
                                      try clear q45
                                      try clear q55
                                      try clear q58
                                      try clear q59
                                      obtain ⟨kq, x13_55, x14_55, HA, HJ55, HO_6, HO_13, HO_14, HB⟩ := hcut
                                      cases kq with
                                      | zero => exact absurd HA.out (by simp [impl_foldStrip.j3])
                                      | succ kj55 =>
                                        have H := HA.out
                                        clear HA
                                        simp only [impl_foldStrip.j3] at H
                                        obtain ⟨y324, hy324⟩ : ∃ y_ : List (List Int), y_ = (([] : List (List Int))) := ⟨_, rfl⟩
                                        replace H : (impl_foldStrip.l3 kj55 a0 x6_3 (ji48) x13_55 x14_55 y324 (a0.size : Int) x37_2 (ji48) 0) = some (r1, r2) := by first | (rw [hy324]; with_reducible exact H) | (have H2_ := (Option.bind_some _ _).symm.trans H; rw [hy324]; with_reducible exact H2_) | (have H2_ := (Option.bind_some _ _).symm.trans H; with_reducible exact H2_) | with_reducible exact H | (rw [hy324]; exact H) | exact H
                                        have Ny324 := Aside0.mk hy324
                                        clear hy324
                                        have H' := Aside0.mk H
                                        clear H
                                        go_wp2_with (first | ((with_reducible refine gate_dst (N := 89) rfl ?_); refine Kd.N_lit (osl w.heap.size) _ 27 ?hg (N' := 89) ?hd (xs := ([] : List (List Int))) (inner := []) (ok := (fun k_ => (w.heap.size ≤ k_) ∧ some k_ ≠ (v305 : Value).ownBlock)) (okp := (fun k_ => (w.heap.size ≤ k_) ∧ some k_ ≠ (v305 : Value).ownBlock)) ?hr ?hp (fun _ hk => hk) ((show ∀ k_, wc.heap.size ≤ k_ → (fun k_ => (w.heap.size ≤ k_) ∧ some k_ ≠ (v305 : Value).ownBlock) k_ from fun k_ hk => ⟨(Nat.le_trans (below_size (by repeat (first | (with_reducible first | exact HB.out | apply below_alloc | apply pw_below_drewN | apply below_drew1) | exact HB.out))) hk), Kd.fresh' (Kd.R_lt (by (with_reducible repeat (first | apply Kd.R_alloc | apply Kd.R_drewN | apply Kd.R_drew)); exact HO_6.out)) k_ hk⟩) _ (Nat.le_refl _)) (Below.refl _ _) (Nat.le_refl _) (by simp) ?_; (case hd => rfl); (case hg => rfl); (case hr => first | (go_simp; done) | (go_simp; rfl)); (case hp => exact (Reps.none _ _)); intro v325 w61 ho62 hb hg_ hnew_; clear hg_ hnew_; (first | rw [← Ny324.out] at ho62 | (simp only [Int.reduceToNat] at ho62; rw [← Ny324.out] at ho62)); have n0_ := Aside0.mk (Kd.R_below (by (with_reducible repeat (first | apply Kd.R_alloc | apply Kd.R_drewN | apply Kd.R_drew)); exact HO_6.out) hb); have n1_ := Aside0.mk (Kd.V_elder' (by (with_reducible repeat (first | apply Kd.V_alloc | apply Kd.V_drewN | apply Kd.V_drew)); exact HO_13.out) (Kd.N_base ho62) hb); have n2_ := Aside0.mk (Kd.V_elder' (by (with_reducible repeat (first | apply Kd.V_alloc | apply Kd.V_drewN | apply Kd.V_drew)); exact HO_14.out) (Kd.N_base ho62) hb); have n3_ := Aside0.mk (Kd.N_lower ho62 (below_size (by repeat (first | (with_reducible first | exact HB.out | apply below_alloc | apply pw_below_drewN | apply below_drew1) | exact HB.out)))); have n4_ := Aside0.mk (below_step (by repeat (first | (with_reducible first | exact HB.out | apply below_alloc | apply pw_below_drewN | apply below_drew1) | exact HB.out)) hb); clear HO_6; clear HO_13; clear HO_14; clear HB; have HO_6 := n0_; have HO_13 := n1_; have HO_14 := n2_; have HO326 := n3_; have HB := n4_; clear n0_ n1_ n2_ n3_ n4_; clear hb ho62))
                                        go_loopg [15, 91] kj55 (fun kq v15 v91 w' => ∃ (x15_5 : List (List Int)) (x91_5 : Int), v91 = .int .i64 x91_5 ∧ Aside0 (impl_foldStrip.l3 kq a0 x6_3 (ji48) x13_55 x14_55 x15_5 (a0.size : Int) x37_2 (ji48) x91_5 = some (r1, r2)) ∧ Aside0 (kq ≤ kj55) ∧ Aside0 (Kd.R (Kd.int .u8) 5 w' w.heap.size (fun k_ => (w.heap.size ≤ k_)) v305 x6_3) ∧ Aside0 (Kd.V (osl w.heap.size) 27 w' w.heap.size (fun k_ => (w.heap.size ≤ k_) ∧ some k_ ≠ (v305 : Value).ownBlock ∧ some k_ ≠ (v15 : Value).ownBlock) u13 x13_55) ∧ Aside0 (Kd.V (osl w.heap.size) 27 w' w.heap.size (fun k_ => (w.heap.size ≤ k_) ∧ some k_ ≠ (v305 : Value).ownBlock ∧ some k_ ≠ (v15 : Value).ownBlock) u14 x14_55) ∧ Aside0 (Kd.N (osl w.heap.size) 27 w' w.heap.size (fun k_ => (w.heap.size ≤ k_) ∧ some k_ ≠ (v305 : Value).ownBlock) v15 x15_5) ∧ Aside0 (Below w.heap.size w w'))
                                        case atStart => exact ⟨(y324), (0), (by first | rfl | (simp; done) | (simp [*]; done)), H', ⟨Nat.le_refl _⟩, ⟨by (with_reducible repeat (first | apply Kd.R_alloc | apply Kd.R_drewN | apply Kd.R_drew)); exact HO_6.out⟩, ⟨by (with_reducible repeat (first | apply Kd.V_alloc | apply Kd.V_drewN | apply Kd.V_drew)); exact Kd.V_mono HO_13.out (fun _ hk => ⟨hk.1.1, ⟨hk.1.2, hk.2⟩⟩)⟩, ⟨by (with_reducible repeat (first | apply Kd.V_alloc | apply Kd.V_drewN | apply Kd.V_drew)); exact Kd.V_mono HO_14.out (fun _ hk => ⟨hk.1.1, ⟨hk.1.2, hk.2⟩⟩)⟩, ⟨by (with_reducible repeat (first | apply Kd.N_alloc | apply Kd.N_drewN | apply Kd.N_drew)); exact HO326.out⟩, ⟨by repeat (first | (with_reducible first | exact HB.out | apply below_alloc | apply pw_below_drewN | apply below_drew1) | exact HB.out)⟩⟩
                                        case round =>
                                          clear H'
                                          try clear c1
                                          try clear c2
                                          try clear p2
                                          try clear c3
                                          try clear p3
                                          try clear q3
                                          try clear hx3
                                          try clear hf3
                                          try clear c4
                                          try clear p4
                                          try clear q4
                                          try clear hx4
                                          try clear hf4
                                          try clear c5
                                          try clear c5b0
                                          try clear p5
                                          try clear q5
                                          try clear hx5
                                          try clear c6
                                          try clear p6
                                          try clear c12
                                          try clear c12b0
                                          try clear c12b1
                                          try clear c13
                                          try clear c13b0
                                          try clear c13b1
                                          try clear c17
                                          try clear c17b0
                                          try clear c19
                                          try clear c19b0
                                          try clear c20
                                          try clear c20b0
                                          try clear c22
                                          try clear c22b0
                                          try clear c23
                                          try clear c23b0
                                          try clear c24
                                          try clear c24b0
                                          try clear c26
                                          try clear c26b0
                                          try clear c27
                                          try clear c27b0
                                          try clear c28
                                          try clear c28b0
                                          try clear c29
                                          try clear c29b0
                                          try clear c30
                                          try clear p30
                                          try clear q30
                                          try clear hx30
                                          try clear c31
                                          try clear p31
                                          try clear q31
                                          try clear hx31
                                          try clear c34
                                          try clear c34b0
                                          try clear c35
                                          try clear c35b0
                                          try clear p36
                                          try clear q36
                                          try clear hx36
                                          try clear hf36
                                          try clear c43
                                          try clear c43b0
                                          try clear c44
                                          try clear c44b0
                                          try clear p45
                                          try clear q45
                                          try clear hx45
                                          try clear hf45
                                          try clear c49
                                          try clear c49b0
                                          try clear c49b1
                                          try clear c50
                                          try clear c50b0
                                          try clear c50b1
                                          try clear c51
                                          try clear c51b0
                                          try clear c52
                                          try clear c52b0
                                          try clear c53
                                          try clear c53b0
                                          try clear c54
                                          try clear c54b0
                                          try clear p55
                                          try clear q55
                                          try clear hx55
                                          try clear c58
                                          try clear q58
                                          try clear q59
                                          try clear c60
                                          try clear c60b0
                                          try clear c60b1
                                          try clear hx308_0
                                          try clear hx309_0
                                          try clear hx310_0
                                          try clear hx311_0
                                          try clear hx36_0
                                          try clear hx45_0
                                          try clear p2
                                          try clear p3
                                          try clear p30
                                          try clear p308
                                          try clear p309
                                          try clear p31
                                          try clear p310
                                          try clear p311
                                          try clear p36
                                          try clear p4
                                          try clear p45
                                          try clear p5
                                          try clear p55
                                          try clear p6
                                          try clear q058
                                          try clear q3
                                          try clear q30
                                          try clear q308
                                          try clear q309
                                          try clear q31
                                          try clear q310
                                          try clear q311
                                          try clear q36
                                          try clear q4
                                          try clear q45
                                          try clear q5
                                          try clear q55
                                          try clear q58
                                          try clear q59
                                          obtain ⟨x15_5, x91_5, rfl, HA, HK5, HO_6, HO_13, HO_14, HO_15, HB⟩ := hrel
                                          cases gk with
                                          | zero => exact absurd HA.out (by simp [impl_foldStrip.l3])
                                          | succ k5 =>
                                            have H := HA.out
                                            clear HA
                                            simp only [impl_foldStrip.l3] at H
                                            by_cases c63 : x91_5 < (ji48)
                                            · rw [if_pos c63] at H
                                              have c63b0 : decide (x91_5 < (ji48)) = true := decide_eq_true c63
                                              clear c63
                                              obtain ⟨ji64, hji64⟩ : ∃ j_ : Int, (wrap64 ((wrap64 ((ji48) - 1)) - x91_5)) = j_ := ⟨_, rfl⟩
                                              replace H : (if 0 ≤ (ji64) then (if (ji64) < (x14_55.length : Int) then ((impl_turned.f k5 (rd_L2 x14_55 (ji64))).bind fun t328 => (if 0 ≤ x91_5 then (if x91_5 < (x13_55.length : Int) then ((slices_Concat_int64_int64.f k5 (([t328, rd_L2 x13_55 x91_5] : List (List Int)))).bind fun t335 => (if x15_5.length < 5864062014805 then (impl_foldStrip.l3 k5 a0 x6_3 (ji48) x13_55 x14_55 (x15_5 ++ [t335]) (a0.size : Int) x37_2 (ji48) (wrap64 (x91_5 + 1))) else (none))) else (none)) else (none))) else (none)) else (none)) = some (r1, r2) := by first | (rw [hji64] at H; exact H) | (simp only [hji64] at H ⊢; exact H)
                                              have hji64w : (IntKind.i64.wrap ((wrap64 ((ji48) - 1)) - x91_5)) = ji64 := (i64_w _).trans hji64
                                              try have hji64xji64_1 : (wrap64 (ji18 - x91_5)) = ji64 := by (first | (have e_ := hji64; rw [hji18xji48_1] at e_; first | exact e_ | exact (i64_w _).trans e_) | (have e_ := hji64w; rw [hji18xji48_1] at e_; exact e_))
                                              try have hji64xji64_2 : (IntKind.i64.wrap (ji18 - x91_5)) = ji64 := by (first | (have e_ := hji64; rw [hji18xji48_1] at e_; first | exact e_ | exact (i64_w _).trans e_) | (have e_ := hji64w; rw [hji18xji48_1] at e_; exact e_))
                                              by_cases c65 : 0 ≤ (ji64)
                                              · rw [if_pos c65] at H
                                                have c65b0 : decide (0 ≤ (ji64)) = true := decide_eq_true c65
                                                clear c65
                                                by_cases c66 : (ji64) < (x14_55.length : Int)
                                                · rw [if_pos c66] at H
                                                  have c66b0 : decide ((ji64) < (x14_55.length : Int)) = true := decide_eq_true c66
                                                  clear c66
                                                  replace H := Option.bind_eq_some_iff.mp H
                                                  obtain ⟨t328, A670, H⟩ := H
                                                  replace H : (if 0 ≤ x91_5 then (if x91_5 < (x13_55.length : Int) then ((slices_Concat_int64_int64.f k5 (([t328, rd_L2 x13_55 x91_5] : List (List Int)))).bind fun t335 => (if x15_5.length < 5864062014805 then (impl_foldStrip.l3 k5 a0 x6_3 (ji48) x13_55 x14_55 (x15_5 ++ [t335]) (a0.size : Int) x37_2 (ji48) (wrap64 (x91_5 + 1))) else (none))) else (none)) else (none)) = some (r1, r2) := H
                                                  have A67 := Aside0.mk A670
                                                  clear A670
                                                  by_cases c68 : 0 ≤ x91_5
                                                  · rw [if_pos c68] at H
                                                    have c68b0 : decide (0 ≤ x91_5) = true := decide_eq_true c68
                                                    clear c68
                                                    by_cases c69 : x91_5 < (x13_55.length : Int)
                                                    · rw [if_pos c69] at H
                                                      have c69b0 : decide (x91_5 < (x13_55.length : Int)) = true := decide_eq_true c69
                                                      clear c69
                                                      obtain ⟨y332, hy332⟩ : ∃ y_ : List (List Int), y_ = (([t328, rd_L2 x13_55 x91_5] : List (List Int))) := ⟨_, rfl⟩
                                                      replace H : ((slices_Concat_int64_int64.f k5 y332).bind fun t335 => (if x15_5.length < 5864062014805 then (impl_foldStrip.l3 k5 a0 x6_3 (ji48) x13_55 x14_55 (x15_5 ++ [t335]) (a0.size : Int) x37_2 (ji48) (wrap64 (x91_5 + 1))) else (none))) = some (r1, r2) := by first | (rw [hy332]; with_reducible exact H) | (have H2_ := (Option.bind_some _ _).symm.trans H; rw [hy332]; with_reducible exact H2_) | (have H2_ := (Option.bind_some _ _).symm.trans H; with_reducible exact H2_) | with_reducible exact H | (rw [hy332]; exact H) | exact H
                                                      have Ny332 := Aside0.mk hy332
                                                      clear hy332
                                                      replace H := Option.bind_eq_some_iff.mp H
                                                      obtain ⟨t335, A700, H⟩ := H
                                                      replace H : (if x15_5.length < 5864062014805 then (impl_foldStrip.l3 k5 a0 x6_3 (ji48) x13_55 x14_55 (x15_5 ++ [t335]) (a0.size : Int) x37_2 (ji48) (wrap64 (x91_5 + 1))) else (none)) = some (r1, r2) := H
                                                      have A70 := Aside0.mk A700
                                                      clear A700
                                                      by_cases c71 : x15_5.length < 5864062014805
                                                      · rw [if_pos c71] at H
                                                        have LMc71 := Aside0.mk c71
                                                        clear c71
                                                        obtain ⟨y338, hy338⟩ : ∃ y_ : List (List Int), y_ = (x15_5 ++ [t335]) := ⟨_, rfl⟩
                                                        replace H : (impl_foldStrip.l3 k5 a0 x6_3 (ji48) x13_55 x14_55 y338 (a0.size : Int) x37_2 (ji48) (wrap64 (x91_5 + 1))) = some (r1, r2) := by first | (rw [hy338]; with_reducible exact H) | (have H2_ := (Option.bind_some _ _).symm.trans H; rw [hy338]; with_reducible exact H2_) | (have H2_ := (Option.bind_some _ _).symm.trans H; with_reducible exact H2_) | with_reducible exact H | (rw [hy338]; exact H) | exact H
                                                        have Ny338 := Aside0.mk hy338
                                                        clear hy338
                                                        have H' := Aside0.mk H
                                                        clear H
                                                        try go_wp2
                                                        have n0_ := Aside0.mk (Kd.R_drew HO_6.out)
                                                        have n1_ := Aside0.mk (Kd.V_drew HO_13.out)
                                                        have n2_ := Aside0.mk (Kd.V_drew HO_14.out)
                                                        have n3_ := Aside0.mk (Kd.N_drew HO_15.out)
                                                        have n4_ := Aside0.mk (below_drew1 HB.out)
                                                        clear HO_6
                                                        clear HO_13
                                                        clear HO_14
                                                        clear HO_15
                                                        clear HB
                                                        have HO_6 := n0_
                                                        have HO_13 := n1_
                                                        have HO_14 := n2_
                                                        have HO_15 := n3_
                                                        have HB := n4_
                                                        clear n0_ n1_ n2_ n3_ n4_
                                                        obtain ⟨Ao73, co73, eo73⟩ := Kd.V_slice HO_14.out
                                                        (first | subst eo73 | (injection eo73 with f1_ f2_ f3_; have f4_ := f1_.symm; have f5_ := f3_.symm; clear f1_ f2_ f3_; subst f4_; subst f5_))
                                                        have p327 : 0 ≤ ((ji64) : Int) := of_decide_eq_true (by first | (with_reducible assumption) | assumption)
                                                        have q327 : (ji64) < (x14_55.length : Int) := of_decide_eq_true (by first | (with_reducible assumption) | assumption)
                                                        obtain ⟨ad327, A327_0, c327_0, e327, hx327_0, hl327_0, hi327_0⟩ := at_L2 (osl_C (Kd.V_reads' HO_14.out).2.2) (ji64) p327 q327
                                                        cases e327
                                                        obtain ⟨ce327, hce327, hMe327, hcc327⟩ := Kd.V_get HO_14.out [] (ji64) p327 (by first | exact q327 | exact of_decide_eq_true (by first | (with_reducible assumption) | assumption) | (have e_ := (Kd.V_reads' HO_14.out).1; omega))
                                                        have hOWN327_ := Aside0.mk (osl_own hMe327)
                                                        obtain ⟨ua327_0, uc327_0, rfl, ul327_0, ge327_0⟩ := Kd.FK_slice_open (osl_FK hMe327)
                                                        have hv327_0 := hcc327 0 _ rfl
                                                        rw [Nat.add_zero, show ((osl w.heap.size)).sz = 1 from rfl, Nat.mul_one] at hv327_0
                                                        replace hv327_0 := Option.some.inj (hv327_0.symm.trans hx327_0)
                                                        injection hv327_0 with hva_ hvn_ hvc_
                                                        rw [hva_] at ge327_0
                                                        rw [hvc_] at ul327_0
                                                        have HL327_0 := Aside0.mk (show Kd.V (Kd.int .i64) 2 _ w.heap.size _ _ (rd_L2 x14_55 (ji64)) from Kd.V_mk ul327_0 ge327_0)
                                                        clear hva_ hvn_ hvc_ ge327_0 ul327_0
                                                        clear hcc327 hce327
                                                        have HR327_0 := Aside0.mk hi327_0
                                                        have HC327_0 := Aside0.mk hl327_0
                                                        clear hi327_0 hl327_0
                                                        replace p327 := eq_true p327
                                                        replace q327 := eq_true q327
                                                        obtain ⟨Ao74, co74, eo74⟩ := Kd.V_slice HO_13.out
                                                        (first | subst eo74 | (injection eo74 with f1_ f2_ f3_; have f4_ := f1_.symm; have f5_ := f3_.symm; clear f1_ f2_ f3_; subst f4_; subst f5_))
                                                        have p331 : 0 ≤ (x91_5 : Int) := of_decide_eq_true (by first | (with_reducible assumption) | assumption)
                                                        have q331 : x91_5 < (x13_55.length : Int) := of_decide_eq_true (by first | (with_reducible assumption) | assumption)
                                                        obtain ⟨ad331, A331_0, c331_0, e331, hx331_0, hl331_0, hi331_0⟩ := at_L2 (osl_C (Kd.V_reads' HO_13.out).2.2) x91_5 p331 q331
                                                        cases e331
                                                        obtain ⟨ce331, hce331, hMe331, hcc331⟩ := Kd.V_get HO_13.out [] x91_5 p331 (by first | exact q331 | exact of_decide_eq_true (by first | (with_reducible assumption) | assumption) | (have e_ := (Kd.V_reads' HO_13.out).1; omega))
                                                        have hOWN331_ := Aside0.mk (osl_own hMe331)
                                                        obtain ⟨ua331_0, uc331_0, rfl, ul331_0, ge331_0⟩ := Kd.FK_slice_open (osl_FK hMe331)
                                                        have hv331_0 := hcc331 0 _ rfl
                                                        rw [Nat.add_zero, show ((osl w.heap.size)).sz = 1 from rfl, Nat.mul_one] at hv331_0
                                                        replace hv331_0 := Option.some.inj (hv331_0.symm.trans hx331_0)
                                                        injection hv331_0 with hva_ hvn_ hvc_
                                                        rw [hva_] at ge331_0
                                                        rw [hvc_] at ul331_0
                                                        have HL331_0 := Aside0.mk (show Kd.V (Kd.int .i64) 2 _ w.heap.size _ _ (rd_L2 x13_55 x91_5) from Kd.V_mk ul331_0 ge331_0)
                                                        clear hva_ hvn_ hvc_ ge331_0 ul331_0
                                                        clear hcc331 hce331
                                                        have HR331_0 := Aside0.mk hi331_0
                                                        have HC331_0 := Aside0.mk hl331_0
                                                        clear hi331_0 hl331_0
                                                        replace p331 := eq_true p331
                                                        replace q331 := eq_true q331
                                                        refine start_ (n := 18) (S := fun w' => w'.cell? (ad327.add ((ji64)).toNat) = some (.slice A327_0 (rd_L2 x14_55 (ji64)).length c327_0) ∧ w'.cell? (ad331.add (x91_5).toNat) = some (.slice A331_0 (rd_L2 x13_55 x91_5).length c331_0)) (ds := [15, 16]) #[false, false, false, false, false, false, false, false, false, false, false, false, false, false, false, false, false, false] (by kernel_rfl) rfl rfl ⟨hx327_0, hx331_0⟩ (fun hHeld => ?_); refine with_tabW impl_foldStrip.tab28 impl_foldStrip.bits28 (fun HT_ HW_ => ?_)
                                                        generalize wr.drew = w72 at HO_6 HO_13 HO_14 HO_15 HB HL327_0 HL331_0 HR327_0 HR331_0 hx327_0 hx331_0 hHeld ⊢
                                                        refine pure_ (i := 0) (N := some 94) (v := ?_) (a' := ?_) #[true, false, false, false, false, false, false, false, false, false, false, false, false, false, false, false, false, false] rfl rfl (any_of HT_.out (by kernel_rfl)) (fun _ _ _ h => h) (Or.inl ⟨by rfl, ?_⟩) ?_ ?_
                                                        rotate_left
                                                        · intro w'
                                                          go_simp
                                                          with_reducible rfl
                                                        rotate_left
                                                        · simp only [Act.put, List.setIfInBounds_toArray, List.set_cons_zero, List.set_cons_succ, i64_w, i32_w]
                                                          rfl
                                                        refine pure_ (i := 1) (N := some 95) (v := ?_) (a' := ?_) #[true, true, false, false, false, false, false, false, false, false, false, false, false, false, false, false, false, false] rfl rfl (any_of HT_.out (by kernel_rfl)) (fun _ _ _ h => h) (Or.inl ⟨by rfl, ?_⟩) ?_ ?_
                                                        rotate_left
                                                        · intro w'
                                                          go_simp
                                                          with_reducible rfl
                                                        rotate_left
                                                        · simp only [Act.put, List.setIfInBounds_toArray, List.set_cons_zero, List.set_cons_succ, i64_w, i32_w]
                                                          rfl
                                                        refine pure_ (i := 2) (N := some 96) (v := ?_) (a' := ?_) #[true, true, true, false, false, false, false, false, false, false, false, false, false, false, false, false, false, false] rfl rfl (any_of HT_.out (by kernel_rfl)) (fun _ _ _ h => h) (Or.inl ⟨by rfl, ?_⟩) ?_ ?_
                                                        rotate_left
                                                        · intro w'
                                                          go_simp
                                                          with_reducible rfl
                                                        rotate_left
                                                        · simp only [Act.put, List.setIfInBounds_toArray, List.set_cons_zero, List.set_cons_succ, i64_w, i32_w]
                                                          rfl
                                                        refine pure_ (i := 3) (N := some 97) (v := ?_) (a' := ?_) #[true, true, true, true, false, false, false, false, false, false, false, false, false, false, false, false, false, false] rfl rfl (any_of HT_.out (by kernel_rfl)) (fun _ _ _ h => h) (Or.inl ⟨by rfl, ?_⟩) ?_ ?_
                                                        rotate_left
                                                        · intro w'
                                                          go_simp
                                                          with_reducible rfl
                                                        rotate_left
                                                        · simp only [Act.put, List.setIfInBounds_toArray, List.set_cons_zero, List.set_cons_succ, i64_w, i32_w]
                                                          rfl
                                                        refine pure_ (i := 4) (N := some 98) (v := ?_) (a' := ?_) #[true, true, true, true, true, false, false, false, false, false, false, false, false, false, false, false, false, false] rfl rfl (any_of HT_.out (by kernel_rfl)) (fun _ _ _ h => h) (Or.inl ⟨by rfl, ?_⟩) ?_ ?_
                                                        rotate_left
                                                        · intro w'
                                                          go_simp
                                                          with_reducible rfl
                                                        rotate_left
                                                        · simp only [Act.put, List.setIfInBounds_toArray, List.set_cons_zero, List.set_cons_succ, i64_w, i32_w]
                                                          rfl
                                                        refine pure_ (i := 5) (N := some 99) (v := ?_) (a' := ?_) #[true, true, true, true, true, true, false, false, false, false, false, false, false, false, false, false, false, false] rfl rfl (any_of HT_.out (by kernel_rfl)) (fun _ _ _ h => h) (Or.inl ⟨by rfl, ?_⟩) ?_ ?_
                                                        rotate_left
                                                        · intro w'
                                                          go_simp
                                                          with_reducible rfl
                                                        rotate_left
                                                        · simp only [Act.put, List.setIfInBounds_toArray, List.set_cons_zero, List.set_cons_succ, i64_w, i32_w]
                                                          rfl
                                                        refine pure_ (i := 6) (N := some 100) (v := ?_) (a' := ?_) #[true, true, true, true, true, true, true, false, false, false, false, false, false, false, false, false, false, false] rfl rfl (any_of HT_.out (by kernel_rfl)) (fun _ _ _ h => h) (Or.inl ⟨by rfl, ?_⟩) ?_ ?_
                                                        rotate_left
                                                        · intro w'
                                                          go_simp
                                                          with_reducible rfl
                                                        rotate_left
                                                        · simp only [Act.put, List.setIfInBounds_toArray, List.set_cons_zero, List.set_cons_succ, i64_w, i32_w]
                                                          rfl
                                                        refine pure_ (i := 9) (N := some 103) (v := ?_) (a' := ?_) #[true, true, true, true, true, true, true, false, false, true, false, false, false, false, false, false, false, false] rfl rfl (any_of HT_.out (by kernel_rfl)) (fun _ _ _ h => h) (Or.inl ⟨by rfl, ?_⟩) ?_ ?_
                                                        rotate_left
                                                        · intro w'
                                                          go_simp
                                                          with_reducible rfl
                                                        rotate_left
                                                        · simp only [Act.put, List.setIfInBounds_toArray, List.set_cons_zero, List.set_cons_succ, i64_w, i32_w]
                                                          rfl
                                                        refine pure_ (i := 10) (N := some 104) (v := ?_) (a' := ?_) #[true, true, true, true, true, true, true, false, false, true, true, false, false, false, false, false, false, false] rfl rfl (any_of HT_.out (by kernel_rfl)) (fun _ _ _ h => h) (Or.inl ⟨by rfl, ?_⟩) ?_ ?_
                                                        rotate_left
                                                        · intro w'
                                                          go_simp
                                                          with_reducible rfl
                                                        rotate_left
                                                        · simp only [Act.put, List.setIfInBounds_toArray, List.set_cons_zero, List.set_cons_succ, i64_w, i32_w]
                                                          rfl
                                                        refine pure_ (i := 11) (N := some 105) (v := ?_) (a' := ?_) #[true, true, true, true, true, true, true, false, false, true, true, true, false, false, false, false, false, false] rfl rfl (any_of HT_.out (by kernel_rfl)) (fun _ _ _ h => h) (Or.inl ⟨by rfl, ?_⟩) ?_ ?_
                                                        rotate_left
                                                        · intro w'
                                                          go_simp
                                                          with_reducible rfl
                                                        rotate_left
                                                        · simp only [Act.put, List.setIfInBounds_toArray, List.set_cons_zero, List.set_cons_succ, i64_w, i32_w]
                                                          rfl
                                                        refine take_ (i := 7) (N := some 101) (v := ?_) (a' := ?_) #[true, true, true, true, true, true, true, true, false, true, true, true, false, false, false, false, false, false] rfl rfl (take_ofW HT_.out HW_.out (by kernel_rfl)) (fun _ _ _ h => h) (Or.inl ⟨by rfl, ?_⟩) hHeld ?_ ?_
                                                        rotate_left
                                                        · rintro w' ⟨s0, s1⟩
                                                          go_simp
                                                          with_reducible rfl
                                                        rotate_left
                                                        · simp only [Act.put, List.setIfInBounds_toArray, List.set_cons_zero, List.set_cons_succ, i64_w, i32_w]
                                                          rfl
                                                        refine take_ (i := 12) (N := some 106) (v := ?_) (a' := ?_) #[true, true, true, true, true, true, true, true, false, true, true, true, true, false, false, false, false, false] rfl rfl (take_ofW HT_.out HW_.out (by kernel_rfl)) (fun _ _ _ h => h) (Or.inl ⟨by rfl, ?_⟩) hHeld ?_ ?_
                                                        rotate_left
                                                        · rintro w' ⟨s0, s1⟩
                                                          go_simp
                                                          with_reducible rfl
                                                        rotate_left
                                                        · simp only [Act.put, List.setIfInBounds_toArray, List.set_cons_zero, List.set_cons_succ, i64_w, i32_w]
                                                          rfl
                                                        refine one_ (i := 8) (N := some 102) #[true, true, true, true, true, true, true, true, true, true, true, true, true, false, false, false, false, false] rfl rfl (one_of HT_.out (by kernel_rfl)) (by decide) (fun K hK => ?_)
                                                        refine goes_ Tryz.func26 (by kernel_rfl) rfl #[.slice A327_0 (rd_L2 x14_55 (ji64)).length c327_0] (by rfl) rfl rfl (by (try simp only [List.map_toArray, List.map_cons, List.map_nil]); first | done | (simp only [hji64]; rfl) | rfl | (simp only [List.length_drop, List.length_take]; rfl)) ?_
                                                        with_reducible refine (impl_turned.calls k5 _ _ (rd_L2 x14_55 (ji64)) t328 _ ?side1 ?side2 A67.out).mono ?_
                                                        (case side1 => repeat (first | exact (Kd.V_reads' HL327_0.out).2.2 | (with_reducible refine Kd.C_alloc ?_ _) | (with_reducible refine Kd.C_drewN ?_ _) | (with_reducible refine Kd.C_drew ?_)))
                                                        (case side2 => exact (Kd.V_reads' HL327_0.out).2.1)
                                                        rintro e w75 ⟨v329, rfl, ho0, hb⟩
                                                        have HS0_ := (hb.cell (World.block_lt_of_cell? _ _ (hHeld.1))).trans (hHeld.1)
                                                        have HS1_ := (hb.cell (World.block_lt_of_cell? _ _ (hHeld.2))).trans (hHeld.2)
                                                        refine ⟨_, rfl, ?_⟩
                                                        have n0_ := Aside0.mk (Kd.R_below (by (with_reducible repeat (first | apply Kd.R_alloc | apply Kd.R_drewN | apply Kd.R_drew)); exact HO_6.out) hb)
                                                        have n1_ := Aside0.mk (Kd.V_elder' (by (with_reducible repeat (first | apply Kd.V_alloc | apply Kd.V_drewN | apply Kd.V_drew)); exact HO_13.out) (Kd.R_base ho0) hb)
                                                        have n2_ := Aside0.mk (Kd.V_elder' (by (with_reducible repeat (first | apply Kd.V_alloc | apply Kd.V_drewN | apply Kd.V_drew)); exact HO_14.out) (Kd.R_base ho0) hb)
                                                        have n3_ := Aside0.mk (Kd.N_elder' (by (with_reducible repeat (first | apply Kd.N_alloc | apply Kd.N_drewN | apply Kd.N_drew)); exact HO_15.out) (Kd.R_base ho0) hb)
                                                        have n4_ := Aside0.mk (Kd.V_elder' (by (with_reducible repeat (first | apply Kd.V_alloc | apply Kd.V_drewN | apply Kd.V_drew)); exact HL327_0.out) (Kd.R_base ho0) hb)
                                                        have n5_ := Aside0.mk (Kd.V_elder' (by (with_reducible repeat (first | apply Kd.V_alloc | apply Kd.V_drewN | apply Kd.V_drew)); exact HL331_0.out) (Kd.R_base ho0) hb)
                                                        have n6_ := Aside0.mk (Kd.R_lower (Kd.R_newM (M := fun k_ => (w.heap.size ≤ k_)) ho0 (below_size (by repeat (first | (with_reducible first | exact HB.out | apply below_alloc | apply pw_below_drewN | apply below_drew1) | exact HB.out))) (fun k_ h_ => h_)) (below_size (by repeat (first | (with_reducible first | exact HB.out | apply below_alloc | apply pw_below_drewN | apply below_drew1) | exact HB.out))))
                                                        have n7_ := Aside0.mk (Kd.C_below (by repeat (first | (with_reducible exact HR327_0.out) | (with_reducible refine Kd.C_alloc ?_ _) | (with_reducible refine Kd.C_drewN ?_ _) | (with_reducible refine Kd.C_drew ?_) | exact HR327_0.out)) hb)
                                                        have n8_ := Aside0.mk (Kd.C_below (by repeat (first | (with_reducible exact HR331_0.out) | (with_reducible refine Kd.C_alloc ?_ _) | (with_reducible refine Kd.C_drewN ?_ _) | (with_reducible refine Kd.C_drew ?_) | exact HR331_0.out)) hb)
                                                        have n9_ := Aside0.mk (below_step (by repeat (first | (with_reducible first | exact HB.out | apply below_alloc | apply pw_below_drewN | apply below_drew1) | exact HB.out)) hb)
                                                        clear HO_6
                                                        clear HO_13
                                                        clear HO_14
                                                        clear HO_15
                                                        clear HL327_0
                                                        clear HL331_0
                                                        clear HR327_0
                                                        clear HR331_0
                                                        clear HB
                                                        have HO_6 := n0_
                                                        have HO_13 := n1_
                                                        have HO_14 := n2_
                                                        have HO_15 := n3_
                                                        have HL327_0 := n4_
                                                        have HL331_0 := n5_
                                                        have HO330 := n6_
                                                        have HR327_0 := n7_
                                                        have HR331_0 := n8_
                                                        have HB := n9_
                                                        clear n0_ n1_ n2_ n3_ n4_ n5_ n6_ n7_ n8_ n9_
                                                        (try clear hb)
                                                        (try clear hb2)
                                                        (try clear hk)
                                                        (try clear hi)
                                                        (try clear ho0)
                                                        obtain ⟨Ao76, co76, eo76⟩ := Kd.R_slice HO330.out
                                                        (first | subst eo76 | (injection eo76 with f1_ f2_ f3_; have f4_ := f1_.symm; have f5_ := f3_.symm; clear f1_ f2_ f3_; subst f4_; subst f5_))
                                                        refine hK.out _ _ ⟨HS0_, HS1_⟩ (fun hHeld => ?_)
                                                        clear hK K
                                                        refine norm_ (a' := ?_) ?_ ?_
                                                        rotate_left
                                                        · show Act.put _ (some 102) _ = _
                                                          simp only [Act.put, List.setIfInBounds_toArray, List.set_cons_zero, List.set_cons_succ, i64_w, i32_w]
                                                          rfl
                                                        refine one_ (i := 13) (N := some 107) #[true, true, true, true, true, true, true, true, true, true, true, true, true, true, false, false, false, false] rfl rfl (one_of HT_.out (by kernel_rfl)) (by decide) (fun K hK => ?_)
                                                        refine Kd.N_lit_step (Kd.slice 2 (Kd.int .i64)) _ 27 ?hg (N' := 107) ?hd (xs := ([t328, rd_L2 x13_55 x91_5] : List (List Int))) (inner := [.slice Ao76 t328.length co76, .slice A331_0 (rd_L2 x13_55 x91_5).length c331_0]) (ok := (fun k_ => (w.heap.size ≤ k_) ∧ some k_ ≠ (v305 : Value).ownBlock ∧ some k_ ≠ (u15 : Value).ownBlock)) (okp := (fun k_ => (w.heap.size ≤ k_) ∧ some k_ ≠ (v305 : Value).ownBlock ∧ some k_ ≠ (u15 : Value).ownBlock)) ?hr ?hp (fun _ hk => hk) ((show ∀ k_, w75.heap.size ≤ k_ → (fun k_ => (w.heap.size ≤ k_) ∧ some k_ ≠ (v305 : Value).ownBlock ∧ some k_ ≠ (u15 : Value).ownBlock) k_ from fun k_ hk => ⟨(Nat.le_trans (below_size (by repeat (first | (with_reducible first | exact HB.out | apply below_alloc | apply pw_below_drewN | apply below_drew1) | exact HB.out))) hk), Kd.fresh' (Kd.R_lt (by (with_reducible repeat (first | apply Kd.R_alloc | apply Kd.R_drewN | apply Kd.R_drew)); exact HO_6.out)) k_ hk, Kd.fresh' (Kd.N_lt (by (with_reducible repeat (first | apply Kd.N_alloc | apply Kd.N_drewN | apply Kd.N_drew)); exact HO_15.out)) k_ hk⟩) _ (Nat.le_refl _)) (Below.refl _ _) (Nat.le_refl _) (by simp) ?_; (case hd => rfl); (case hg => rfl); (case hr => first | (go_simp; done) | (go_simp; rfl)); (case hp => exact (Reps.one (show Kd.FK (Kd.slice 2 (Kd.int .i64)) _ _ t328 [.slice Ao76 t328.length co76] from (Kd.FK_slice_mk (Kd.R_reads' (Kd.R_mono (ok' := (fun k_ => (w.heap.size ≤ k_) ∧ some k_ ≠ (v305 : Value).ownBlock ∧ some k_ ≠ (u15 : Value).ownBlock)) (Kd.R_apart' (Kd.R_apart' (HO330.out) (Kd.R_typed HO_6.out) (by decide)) (Kd.N_typed HO_15.out) (by decide)) (fun k_ hk => ⟨hk.1.1.1, ⟨hk.1.2, hk.2⟩⟩))).2.1 (Kd.R_F (Kd.R_mono (ok' := (fun k_ => (w.heap.size ≤ k_) ∧ some k_ ≠ (v305 : Value).ownBlock ∧ some k_ ≠ (u15 : Value).ownBlock)) (Kd.R_apart' (Kd.R_apart' (HO330.out) (Kd.R_typed HO_6.out) (by decide)) (Kd.N_typed HO_15.out) (by decide)) (fun k_ hk => ⟨hk.1.1.1, ⟨hk.1.2, hk.2⟩⟩))))) (Reps.one (show Kd.FK (Kd.slice 2 (Kd.int .i64)) _ _ (rd_L2 x13_55 x91_5) [.slice A331_0 (rd_L2 x13_55 x91_5).length c331_0] from (Kd.FK_slice_mk (Kd.V_reads' (Kd.V_mono (ok' := (fun k_ => (w.heap.size ≤ k_) ∧ some k_ ≠ (v305 : Value).ownBlock ∧ some k_ ≠ (u15 : Value).ownBlock)) (HL331_0.out) (fun k_ hk => ⟨hk.1.1, ⟨hk.1.2.1, hk.1.2.2⟩⟩))).2.1 (Kd.V_F (Kd.V_mono (ok' := (fun k_ => (w.heap.size ≤ k_) ∧ some k_ ≠ (v305 : Value).ownBlock ∧ some k_ ≠ (u15 : Value).ownBlock)) (HL331_0.out) (fun k_ hk => ⟨hk.1.1, ⟨hk.1.2.1, hk.1.2.2⟩⟩))))) (Reps.none _ _))))
                                                        intro v333 w77 ho78 hb hg_ hnew_
                                                        have HS0_ := (hb.cell (World.block_lt_of_cell? _ _ (hHeld.1))).trans (hHeld.1)
                                                        have HS1_ := (hb.cell (World.block_lt_of_cell? _ _ (hHeld.2))).trans (hHeld.2)
                                                        clear hg_ hnew_
                                                        (first | rw [← Ny332.out] at ho78 | (simp only [Int.reduceToNat] at ho78; rw [← Ny332.out] at ho78))
                                                        have n0_ := Aside0.mk (Kd.R_below (by (with_reducible repeat (first | apply Kd.R_alloc | apply Kd.R_drewN | apply Kd.R_drew)); exact HO_6.out) hb)
                                                        have n1_ := Aside0.mk (Kd.V_elder' (by (with_reducible repeat (first | apply Kd.V_alloc | apply Kd.V_drewN | apply Kd.V_drew)); exact HO_13.out) (Kd.N_base ho78) hb)
                                                        have n2_ := Aside0.mk (Kd.V_elder' (by (with_reducible repeat (first | apply Kd.V_alloc | apply Kd.V_drewN | apply Kd.V_drew)); exact HO_14.out) (Kd.N_base ho78) hb)
                                                        have n3_ := Aside0.mk (Kd.N_elder' (by (with_reducible repeat (first | apply Kd.N_alloc | apply Kd.N_drewN | apply Kd.N_drew)); exact HO_15.out) (Kd.N_base ho78) hb)
                                                        have n4_ := Aside0.mk (Kd.V_elder' (by (with_reducible repeat (first | apply Kd.V_alloc | apply Kd.V_drewN | apply Kd.V_drew)); exact HL327_0.out) (Kd.N_base ho78) hb)
                                                        have n5_ := Aside0.mk (Kd.V_elder' (by (with_reducible repeat (first | apply Kd.V_alloc | apply Kd.V_drewN | apply Kd.V_drew)); exact HL331_0.out) (Kd.N_base ho78) hb)
                                                        have n6_ := Aside0.mk (Kd.N_lower ho78 (below_size (by repeat (first | (with_reducible first | exact HB.out | apply below_alloc | apply pw_below_drewN | apply below_drew1) | exact HB.out))))
                                                        have n7_ := Aside0.mk (Kd.C_below (by repeat (first | (with_reducible exact HR327_0.out) | (with_reducible refine Kd.C_alloc ?_ _) | (with_reducible refine Kd.C_drewN ?_ _) | (with_reducible refine Kd.C_drew ?_) | exact HR327_0.out)) hb)
                                                        have n8_ := Aside0.mk (Kd.C_below (by repeat (first | (with_reducible exact HR331_0.out) | (with_reducible refine Kd.C_alloc ?_ _) | (with_reducible refine Kd.C_drewN ?_ _) | (with_reducible refine Kd.C_drew ?_) | exact HR331_0.out)) hb)
                                                        have n9_ := Aside0.mk (below_step (by repeat (first | (with_reducible first | exact HB.out | apply below_alloc | apply pw_below_drewN | apply below_drew1) | exact HB.out)) hb)
                                                        clear HO_6
                                                        clear HO_13
                                                        clear HO_14
                                                        clear HO_15
                                                        clear HL327_0
                                                        clear HL331_0
                                                        clear HR327_0
                                                        clear HR331_0
                                                        clear HB
                                                        clear HO330
                                                        have HO_6 := n0_
                                                        have HO_13 := n1_
                                                        have HO_14 := n2_
                                                        have HO_15 := n3_
                                                        have HL327_0 := n4_
                                                        have HL331_0 := n5_
                                                        have HO334 := n6_
                                                        have HR327_0 := n7_
                                                        have HR331_0 := n8_
                                                        have HB := n9_
                                                        clear n0_ n1_ n2_ n3_ n4_ n5_ n6_ n7_ n8_ n9_
                                                        clear hb ho78
                                                        obtain ⟨Ao79, co79, eo79⟩ := Kd.N_slice HO334.out
                                                        (first | subst eo79 | (injection eo79 with f1_ f2_ f3_; have f4_ := f1_.symm; have f5_ := f3_.symm; clear f1_ f2_ f3_; subst f4_; subst f5_))
                                                        refine hK.out _ _ ⟨HS0_, HS1_⟩ (fun hHeld => ?_)
                                                        clear hK K
                                                        refine norm_ (a' := ?_) ?_ ?_
                                                        rotate_left
                                                        · show Act.put _ (some 107) _ = _
                                                          simp only [Act.put, List.setIfInBounds_toArray, List.set_cons_zero, List.set_cons_succ, i64_w, i32_w]
                                                          rfl
                                                        refine one_ (i := 14) (N := some 108) #[true, true, true, true, true, true, true, true, true, true, true, true, true, true, true, false, false, false] rfl rfl (one_of HT_.out (by kernel_rfl)) (by decide) (fun K hK => ?_)
                                                        refine goes_ Tryz.func44 (by kernel_rfl) rfl #[.slice Ao79 y332.length co79] (by rfl) rfl rfl (by (try simp only [List.map_toArray, List.map_cons, List.map_nil]); first | done | rfl | (simp only [List.length_drop, List.length_take]; rfl)) ?_
                                                        with_reducible refine (slices_Concat_int64_int64.calls k5 _ _ y332 t335 _ ?side1 ?side2 A70.out).mono ?_
                                                        (case side1 => repeat (first | exact (Kd.N_reads' HO334.out).2.2 | (with_reducible refine Kd.C_alloc ?_ _) | (with_reducible refine Kd.C_drewN ?_ _) | (with_reducible refine Kd.C_drew ?_)))
                                                        (case side2 => exact (Kd.N_reads' HO334.out).2.1)
                                                        rintro e w80 ⟨v336, rfl, ho0, hb⟩
                                                        have HS0_ := (hb.cell (World.block_lt_of_cell? _ _ (hHeld.1))).trans (hHeld.1)
                                                        have HS1_ := (hb.cell (World.block_lt_of_cell? _ _ (hHeld.2))).trans (hHeld.2)
                                                        refine ⟨_, rfl, ?_⟩
                                                        have n0_ := Aside0.mk (Kd.R_below (by (with_reducible repeat (first | apply Kd.R_alloc | apply Kd.R_drewN | apply Kd.R_drew)); exact HO_6.out) hb)
                                                        have n1_ := Aside0.mk (Kd.V_elder' (by (with_reducible repeat (first | apply Kd.V_alloc | apply Kd.V_drewN | apply Kd.V_drew)); exact HO_13.out) (Kd.R_base ho0) hb)
                                                        have n2_ := Aside0.mk (Kd.V_elder' (by (with_reducible repeat (first | apply Kd.V_alloc | apply Kd.V_drewN | apply Kd.V_drew)); exact HO_14.out) (Kd.R_base ho0) hb)
                                                        have n3_ := Aside0.mk (Kd.N_elder' (by (with_reducible repeat (first | apply Kd.N_alloc | apply Kd.N_drewN | apply Kd.N_drew)); exact HO_15.out) (Kd.R_base ho0) hb)
                                                        have n4_ := Aside0.mk (Kd.V_elder' (by (with_reducible repeat (first | apply Kd.V_alloc | apply Kd.V_drewN | apply Kd.V_drew)); exact HL327_0.out) (Kd.R_base ho0) hb)
                                                        have n5_ := Aside0.mk (Kd.V_elder' (by (with_reducible repeat (first | apply Kd.V_alloc | apply Kd.V_drewN | apply Kd.V_drew)); exact HL331_0.out) (Kd.R_base ho0) hb)
                                                        have n6_ := Aside0.mk (Kd.N_elder' (by (with_reducible repeat (first | apply Kd.N_alloc | apply Kd.N_drewN | apply Kd.N_drew)); exact HO334.out) (Kd.R_base ho0) hb)
                                                        have n7_ := Aside0.mk (Kd.R_lower (Kd.R_newM (M := fun k_ => (w.heap.size ≤ k_)) ho0 (below_size (by repeat (first | (with_reducible first | exact HB.out | apply below_alloc | apply pw_below_drewN | apply below_drew1) | exact HB.out))) (fun k_ h_ => h_)) (below_size (by repeat (first | (with_reducible first | exact HB.out | apply below_alloc | apply pw_below_drewN | apply below_drew1) | exact HB.out))))
                                                        have n8_ := Aside0.mk (Kd.C_below (by repeat (first | (with_reducible exact HR327_0.out) | (with_reducible refine Kd.C_alloc ?_ _) | (with_reducible refine Kd.C_drewN ?_ _) | (with_reducible refine Kd.C_drew ?_) | exact HR327_0.out)) hb)
                                                        have n9_ := Aside0.mk (Kd.C_below (by repeat (first | (with_reducible exact HR331_0.out) | (with_reducible refine Kd.C_alloc ?_ _) | (with_reducible refine Kd.C_drewN ?_ _) | (with_reducible refine Kd.C_drew ?_) | exact HR331_0.out)) hb)
                                                        have n10_ := Aside0.mk (below_step (by repeat (first | (with_reducible first | exact HB.out | apply below_alloc | apply pw_below_drewN | apply below_drew1) | exact HB.out)) hb)
                                                        clear HO_6
                                                        clear HO_13
                                                        clear HO_14
                                                        clear HO_15
                                                        clear HL327_0
                                                        clear HL331_0
                                                        clear HO334
                                                        clear HR327_0
                                                        clear HR331_0
                                                        clear HB
                                                        have HO_6 := n0_
                                                        have HO_13 := n1_
                                                        have HO_14 := n2_
                                                        have HO_15 := n3_
                                                        have HL327_0 := n4_
                                                        have HL331_0 := n5_
                                                        have HO334 := n6_
                                                        have HO337 := n7_
                                                        have HR327_0 := n8_
                                                        have HR331_0 := n9_
                                                        have HB := n10_
                                                        clear n0_ n1_ n2_ n3_ n4_ n5_ n6_ n7_ n8_ n9_ n10_
                                                        (try clear hb)
                                                        (try clear hb2)
                                                        (try clear hk)
                                                        (try clear hi)
                                                        (try clear ho0)
                                                        obtain ⟨Ao82, co82, eo82⟩ := Kd.R_slice HO337.out
                                                        (first | subst eo82 | (injection eo82 with f1_ f2_ f3_; have f4_ := f1_.symm; have f5_ := f3_.symm; clear f1_ f2_ f3_; subst f4_; subst f5_))
                                                        refine hK.out _ _ ⟨HS0_, HS1_⟩ (fun hHeld => ?_)
                                                        clear hK K
                                                        refine norm_ (a' := ?_) ?_ ?_
                                                        rotate_left
                                                        · show Act.put _ (some 108) _ = _
                                                          simp only [Act.put, List.setIfInBounds_toArray, List.set_cons_zero, List.set_cons_succ, i64_w, i32_w]
                                                          rfl
                                                        refine last_ (i := 15) (N := some 109) #[true, true, true, true, true, true, true, true, true, true, true, true, true, true, true, true, false, false] rfl rfl (one_of HT_.out (by kernel_rfl)) (by decide) (fun K hK => ?_)
                                                        refine value_ (w1 := ?_) (v := ?_) (by rfl) rfl ?_ ?_
                                                        rotate_left 2
                                                        · go_simp
                                                          constructor
                                                          · rfl
                                                          · rfl
                                                        refine hK.out _ _ ?_
                                                        clear hK K
                                                        refine norm_ (a' := ?_) ?_ ?_
                                                        rotate_left
                                                        · show Act.put _ (some 109) _ = _
                                                          simp only [Act.put, List.setIfInBounds_toArray, List.set_cons_zero, List.set_cons_succ, i64_w, i32_w]
                                                          rfl
                                                        refine last_ (i := 16) (N := some 110) #[true, true, true, true, true, true, true, true, true, true, true, true, true, true, true, true, true, false] rfl rfl (one_of HT_.out (by kernel_rfl)) (by decide) (fun K hK => ?_)
                                                        refine Kd.N_append_step (osl w.heap.size) (w0 := w) w.heap.size (by rfl) (.tmp 94) (.tmp 109) 64 27 (.slice none 0 0) 24 rfl Tryz.underlying64 info27 rfl (show (0 : Nat) < 1 from Nat.zero_lt_one) (by omega) u15 x15_5 t335 [.slice Ao82 t335.length co82] (fun k_ => (w.heap.size ≤ k_) ∧ some k_ ≠ (v305 : Value).ownBlock ∧ some k_ ≠ (.slice Ao79 y332.length co79 : Value).ownBlock) (fun k_ => ((fun k_ => (w.heap.size ≤ k_) ∧ some k_ ≠ (v305 : Value).ownBlock ∧ some k_ ≠ (.slice Ao79 y332.length co79 : Value).ownBlock)) k_ ∧ some k_ ≠ (u15 : Value).ownBlock) rfl rfl ?aP (fun _ hk => hk) ?aF ?aO ?aB ?aS ?aL ?_
                                                        (case aP => exact (osl_mk (Kd.R_mono (ok' := (fun k_ => ((fun k_ => (w.heap.size ≤ k_) ∧ some k_ ≠ (v305 : Value).ownBlock ∧ some k_ ≠ (.slice Ao79 y332.length co79 : Value).ownBlock)) k_ ∧ some k_ ≠ (u15 : Value).ownBlock)) (Kd.R_apart' (Kd.R_apart' (Kd.R_apart' (HO337.out) (Kd.R_typed HO_6.out) (by decide)) (Kd.N_typed HO334.out) (by decide)) (Kd.N_typed HO_15.out) (by decide)) (fun k_ hk => ⟨⟨hk.1.1.1.1, ⟨hk.1.1.2, hk.1.2⟩⟩, hk.2⟩))))
                                                        (case aB => exact (by repeat (first | (with_reducible first | exact HB.out | apply below_alloc | apply pw_below_drewN | apply below_drew1) | exact HB.out)))
                                                        (case aF => exact (fun k_ hk => ⟨(Nat.le_trans (below_size (by repeat (first | (with_reducible first | exact HB.out | apply below_alloc | apply pw_below_drewN | apply below_drew1) | exact HB.out))) hk), Kd.fresh' (Kd.R_lt (by (with_reducible repeat (first | apply Kd.R_alloc | apply Kd.R_drewN | apply Kd.R_drew)); exact HO_6.out)) k_ hk, Kd.fresh' (Kd.N_lt (by (with_reducible repeat (first | apply Kd.N_alloc | apply Kd.N_drewN | apply Kd.N_drew)); exact HO334.out)) k_ hk⟩))
                                                        (case aO => exact (by (with_reducible repeat (first | apply Kd.N_alloc | apply Kd.N_drewN | apply Kd.N_drew)); exact Kd.N_mono HO_15.out (fun _ hk => ⟨hk.1.1.1.1, ⟨hk.1.1.1.2, hk.1.2⟩⟩)))
                                                        (case aS => exact (below_size (by repeat (first | (with_reducible first | exact HB.out | apply below_alloc | apply pw_below_drewN | apply below_drew1) | exact HB.out))))
                                                        (case aL => have := LMc71.out; omega)
                                                        intro v339 w81 ho hb hg hat
                                                        rw [← Ny338.out] at ho
                                                        have n0_ := Aside0.mk (Kd.R_over' (by (with_reducible repeat (first | apply Kd.R_alloc | apply Kd.R_drewN | apply Kd.R_drew)); exact HO_6.out) (Kd.N_typed (by (with_reducible repeat (first | apply Kd.N_alloc | apply Kd.N_drewN | apply Kd.N_drew)); exact HO_15.out)) (by decide) hg)
                                                        have n1_ := Aside0.mk (Kd.V_afterv (ok := (fun k_ => (w.heap.size ≤ k_) ∧ some k_ ≠ (v305 : Value).ownBlock ∧ some k_ ≠ (.slice Ao79 y332.length co79 : Value).ownBlock ∧ some k_ ≠ (.slice Ao82 t335.length co82 : Value).ownBlock)) (by (with_reducible repeat (first | apply Kd.V_alloc | apply Kd.V_drewN | apply Kd.V_drew)); exact Kd.V_mono HO_13.out (fun _ hk => ⟨⟨hk.1.1.1.1, ⟨hk.1.1.1.2.1, ⟨hk.1.2, hk.2⟩⟩⟩, hk.1.1.1.2.2⟩)) hg hat)
                                                        have n2_ := Aside0.mk (Kd.V_afterv (ok := (fun k_ => (w.heap.size ≤ k_) ∧ some k_ ≠ (v305 : Value).ownBlock ∧ some k_ ≠ (.slice Ao79 y332.length co79 : Value).ownBlock ∧ some k_ ≠ (.slice Ao82 t335.length co82 : Value).ownBlock)) (by (with_reducible repeat (first | apply Kd.V_alloc | apply Kd.V_drewN | apply Kd.V_drew)); exact Kd.V_mono HO_14.out (fun _ hk => ⟨⟨hk.1.1.1.1, ⟨hk.1.1.1.2.1, ⟨hk.1.2, hk.2⟩⟩⟩, hk.1.1.1.2.2⟩)) hg hat)
                                                        have n3_ := Aside0.mk (Kd.V_afterv (ok := (fun k_ => (w.heap.size ≤ k_) ∧ some k_ ≠ (v305 : Value).ownBlock ∧ some k_ ≠ (.slice Ao79 y332.length co79 : Value).ownBlock ∧ some k_ ≠ (.slice Ao82 t335.length co82 : Value).ownBlock)) (by (with_reducible repeat (first | apply Kd.V_alloc | apply Kd.V_drewN | apply Kd.V_drew)); exact Kd.V_mono HL327_0.out (fun _ hk => ⟨⟨hk.1.1.1.1, ⟨hk.1.1.1.2.1, ⟨hk.1.2, hk.2⟩⟩⟩, hk.1.1.1.2.2⟩)) hg hat)
                                                        have n4_ := Aside0.mk (Kd.V_afterv (ok := (fun k_ => (w.heap.size ≤ k_) ∧ some k_ ≠ (v305 : Value).ownBlock ∧ some k_ ≠ (.slice Ao79 y332.length co79 : Value).ownBlock ∧ some k_ ≠ (.slice Ao82 t335.length co82 : Value).ownBlock)) (by (with_reducible repeat (first | apply Kd.V_alloc | apply Kd.V_drewN | apply Kd.V_drew)); exact Kd.V_mono HL331_0.out (fun _ hk => ⟨⟨hk.1.1.1.1, ⟨hk.1.1.1.2.1, ⟨hk.1.2, hk.2⟩⟩⟩, hk.1.1.1.2.2⟩)) hg hat)
                                                        have n5_ := Aside0.mk (Kd.N_afterv (ok := (fun k_ => (w.heap.size ≤ k_) ∧ some k_ ≠ (v305 : Value).ownBlock ∧ some k_ ≠ (.slice Ao82 t335.length co82 : Value).ownBlock)) (by (with_reducible repeat (first | apply Kd.N_alloc | apply Kd.N_drewN | apply Kd.N_drew)); exact Kd.N_mono HO334.out (fun _ hk => ⟨⟨hk.1.1, ⟨hk.1.2.1, hk.2⟩⟩, hk.1.2.2⟩)) hg hat)
                                                        have n6_ := Aside0.mk (hb)
                                                        have n7_ := Aside0.mk (ho)
                                                        clear HO_6
                                                        clear HO_13
                                                        clear HO_14
                                                        clear HL327_0
                                                        clear HL331_0
                                                        clear HO334
                                                        clear HB
                                                        clear HO_15
                                                        clear HO337
                                                        have HO_6 := n0_
                                                        have HO_13 := n1_
                                                        have HO_14 := n2_
                                                        have HL327_0 := n3_
                                                        have HL331_0 := n4_
                                                        have HO334 := n5_
                                                        have HB := n6_
                                                        have HO340 := n7_
                                                        clear n0_ n1_ n2_ n3_ n4_ n5_ n6_ n7_
                                                        clear ho hb hg hat
                                                        refine hK.out _ _ ?_
                                                        clear hK K
                                                        refine norm_ (a' := ?_) ?_ ?_
                                                        rotate_left
                                                        · show Act.put _ (some 110) _ = _
                                                          simp only [Act.put, List.setIfInBounds_toArray, List.set_cons_zero, List.set_cons_succ, i64_w, i32_w]
                                                          rfl
                                                        refine pure_ (i := 17) (N := some 15) (v := ?_) (a' := ?_) #[true, true, true, true, true, true, true, true, true, true, true, true, true, true, true, true, true, true] rfl rfl (any_of HT_.out (by kernel_rfl)) (fun _ _ _ h => h) (Or.inl ⟨by rfl, ?_⟩) ?_ ?_
                                                        rotate_left
                                                        · intro w'
                                                          go_simp
                                                          with_reducible rfl
                                                        rotate_left
                                                        · simp only [Act.put, List.setIfInBounds_toArray, List.set_cons_zero, List.set_cons_succ, i64_w, i32_w]
                                                          rfl
                                                        refine done_ (done_of HT_.out (by kernel_rfl)) ?_
                                                        try go_wp2
                                                        (try subst hji48)
                                                        go_roundg k5
                                                        case measure => have := HK1.out; have := HK2.out; have := HK3.out; have := HJ55.out; have := HK5.out; omega
                                                        case rel => exact ⟨(y338), (wrap64 (x91_5 + 1)), (by first | rfl | (simp; done) | (simp [*]; done)), H', ⟨by have := HK1.out; have := HK2.out; have := HK3.out; have := HJ55.out; have := HK5.out; omega⟩, ⟨by (with_reducible repeat (first | apply Kd.R_alloc | apply Kd.R_drewN | apply Kd.R_drew)); exact HO_6.out⟩, ⟨by (with_reducible repeat (first | apply Kd.V_alloc | apply Kd.V_drewN | apply Kd.V_drew)); exact Kd.V_mono HO_13.out (fun _ hk => ⟨hk.1.1, ⟨hk.1.2.1, hk.2⟩⟩)⟩, ⟨by (with_reducible repeat (first | apply Kd.V_alloc | apply Kd.V_drewN | apply Kd.V_drew)); exact Kd.V_mono HO_14.out (fun _ hk => ⟨hk.1.1, ⟨hk.1.2.1, hk.2⟩⟩)⟩, ⟨by (with_reducible repeat (first | apply Kd.N_alloc | apply Kd.N_drewN | apply Kd.N_drew)); exact Kd.N_mono HO340.out (fun _ hk => ⟨hk.1, hk.2.1⟩)⟩, ⟨by repeat (first | (with_reducible first | exact HB.out | apply below_alloc | apply pw_below_drewN | apply below_drew1) | exact HB.out)⟩⟩
                                                      · rw [if_neg c71] at H
                                                        exact absurd H (by simp)
                                                    · rw [if_neg c69] at H
                                                      exact absurd H (by simp)
                                                  · rw [if_neg c68] at H
                                                    exact absurd H (by simp)
                                                · rw [if_neg c66] at H
                                                  exact absurd H (by simp)
                                              · rw [if_neg c65] at H
                                                exact absurd H (by simp)
                                            · rw [if_neg c63] at H
                                              have c63b0 : decide (x91_5 < (ji48)) = false := decide_eq_false c63
                                              clear c63
                                              have H' := Aside0.mk H
                                              clear H
                                              go_wp2
                                              (try subst hji48)
                                              go_roundg k5
                                              case measure => have := HK1.out; have := HK2.out; have := HK3.out; have := HJ55.out; have := HK5.out; omega
                                              case rel => exact ⟨(x15_5), (x6_3), (wrap64 (x37_2 + 1)), (by first | rfl | (simp; done) | (simp [*]; done)), H', ⟨by have := HK1.out; have := HK2.out; have := HK3.out; have := HJ55.out; have := HK5.out; omega⟩, ⟨by (with_reducible repeat (first | apply Kd.N_alloc | apply Kd.N_drewN | apply Kd.N_drew)); exact HO_15.out⟩, ⟨by (with_reducible repeat (first | apply Kd.R_alloc | apply Kd.R_drewN | apply Kd.R_drew)); exact HO_6.out⟩, ⟨by repeat (first | (with_reducible first | exact HB.out | apply below_alloc | apply pw_below_drewN | apply below_drew1) | exact HB.out)⟩⟩
                                  · rw [if_neg c54] at H
                                    exact absurd H (by simp)
                                · rw [if_neg c53] at H
                                  exact absurd H (by simp)
                              · rw [if_neg c50] at H
                                exact absurd H (by simp)
                            · rw [if_neg c49] at H
                              exact absurd H (by simp)
                    · rw [if_neg c20] at H
                      exact absurd H (by simp)
                  · rw [if_neg c19] at H
                    exact absurd H (by simp)
                · rw [if_neg c17] at H
                  have c17b0 : decide (x37_2 < (a0.size : Int)) = false := decide_eq_false c17
                  clear c17
                  by_cases c83 : 0 < (x4_2.length : Int)
                  · rw [if_pos c83] at H
                    have c83b0 : decide (0 < (x4_2.length : Int)) = true := decide_eq_true c83
                    have c83b1 : decide (0 < x4_2.length) = true := decide_eq_true (by omega)
                    clear c83
                    simp only [Option.some.injEq, Prod.mk.injEq] at H
                    obtain ⟨rfl, rfl⟩ := H
                    try go_wp2
                    have n0_ := Aside0.mk (Kd.N_drew HO_4.out)
                    have n1_ := Aside0.mk (Kd.R_drew HO_6.out)
                    have n2_ := Aside0.mk (below_drew1 HB.out)
                    clear HO_4
                    clear HO_6
                    clear HB
                    have HO_4 := n0_
                    have HO_6 := n1_
                    have HB := n2_
                    clear n0_ n1_ n2_
                    obtain ⟨Ao85, co85, eo85⟩ := Kd.N_slice HO_4.out
                    (first | subst eo85 | (injection eo85 with f1_ f2_ f3_; have f4_ := f1_.symm; have f5_ := f3_.symm; clear f1_ f2_ f3_; subst f4_; subst f5_))
                    have p307 : 0 ≤ (0 : Int) := (by omega)
                    have q307 : 0 < (x4_2.length : Int) := of_decide_eq_true (by first | (with_reducible assumption) | assumption)
                    obtain ⟨ad307, A307_0, c307_0, e307, hx307_0, hl307_0, hi307_0⟩ := at_L2 (osl_C (Kd.N_reads' HO_4.out).2.2) 0 p307 q307
                    cases e307
                    obtain ⟨ce307, hce307, hMe307, hcc307⟩ := Kd.N_get HO_4.out [] 0 p307 (by first | exact q307 | exact of_decide_eq_true (by first | (with_reducible assumption) | assumption) | (have e_ := (Kd.N_reads' HO_4.out).1; omega))
                    have hOWN307_ := Aside0.mk (osl_own hMe307)
                    obtain ⟨ua307_0, uc307_0, rfl, ul307_0, ge307_0⟩ := Kd.FK_slice_open (osl_FK hMe307)
                    have hv307_0 := hcc307 0 _ rfl
                    rw [Nat.add_zero, show ((osl w.heap.size)).sz = 1 from rfl, Nat.mul_one] at hv307_0
                    replace hv307_0 := Option.some.inj (hv307_0.symm.trans hx307_0)
                    injection hv307_0 with hva_ hvn_ hvc_
                    rw [hva_] at ge307_0
                    rw [hvc_] at ul307_0
                    obtain ⟨vo_, evo_, rvo_⟩ := hOWN307_.out
                    rw [hva_, hvc_] at evo_
                    injection evo_ with evo_ _
                    rw [← evo_] at rvo_
                    have HL307_0 := Aside0.mk rvo_
                    clear hva_ hvn_ hvc_ ge307_0 ul307_0
                    clear hcc307 hce307
                    have qi307 : (0 < x4_2.length) = True := eq_true (by omega)
                    (try rw [show ((0 : Int)).toNat = 0 from rfl] at hx307_0)
                    (try rw [Addr.add_zero'] at hx307_0)
                    have HR307_0 := Aside0.mk hi307_0
                    have HC307_0 := Aside0.mk hl307_0
                    clear hi307_0 hl307_0
                    replace p307 := eq_true p307
                    replace q307 := eq_true q307
                    refine start_ (n := 7) (S := fun w' => (w'.cell? ad307 = some (.slice A307_0 (rd_L2 x4_2 0).length c307_0)) ∧ (convert 22 9 v305).run Tryz.prog w' = .ok (.string (strOfNums x6_2)) w') (ds := []) #[false, false, false, false, false, false, false] (by kernel_rfl) rfl rfl ⟨(hx307_0), own_string (P := Tryz.prog) Tryz.underlying22 Tryz.underlying5 Tryz.underlying9 (Kd.own_of_R (Kd.R_drew HO_6.out))⟩ (fun hHeld => ?_)
                    generalize wr.drew = w84 at HO_4 HO_6 HB HL307_0 HR307_0 hx307_0 hHeld ⊢
                    refine pure_ (i := 0) (N := some 114) (v := ?_) (a' := ?_) #[true, false, false, false, false, false, false] rfl rfl (by kernel_rfl) (fun _ _ _ h => h) (Or.inl ⟨by rfl, ?_⟩) ?_ ?_
                    rotate_left
                    · intro w'
                      go_simp
                      with_reducible rfl
                    rotate_left
                    · simp only [Act.put, List.setIfInBounds_toArray, List.set_cons_zero, List.set_cons_succ, i64_w, i32_w]
                      rfl
                    refine pure_ (i := 1) (N := some 115) (v := ?_) (a' := ?_) #[true, true, false, false, false, false, false] rfl rfl (by kernel_rfl) (fun _ _ _ h => h) (Or.inl ⟨by rfl, ?_⟩) ?_ ?_
                    rotate_left
                    · intro w'
                      go_simp
                      with_reducible rfl
                    rotate_left
                    · simp only [Act.put, List.setIfInBounds_toArray, List.set_cons_zero, List.set_cons_succ, i64_w, i32_w]
                      rfl
                    refine pure_ (i := 3) (N := some 117) (v := ?_) (a' := ?_) #[true, true, false, true, false, false, false] rfl rfl (by kernel_rfl) (fun _ _ _ h => h) (Or.inl ⟨by rfl, ?_⟩) ?_ ?_
                    rotate_left
                    · intro w'
                      go_simp
                      with_reducible rfl
                    rotate_left
                    · simp only [Act.put, List.setIfInBounds_toArray, List.set_cons_zero, List.set_cons_succ, i64_w, i32_w]
                      rfl
                    refine take_ (i := 4) (N := some 118) (v := ?_) (a' := ?_) #[true, true, false, true, true, false, false] rfl rfl (by kernel_rfl) (fun _ _ _ h => h) (Or.inl ⟨by rfl, ?_⟩) hHeld ?_ ?_
                    rotate_left
                    · rintro w' ⟨s0, s1_⟩
                      go_simp
                      with_reducible rfl
                    rotate_left
                    · simp only [Act.put, List.setIfInBounds_toArray, List.set_cons_zero, List.set_cons_succ, i64_w, i32_w]
                      rfl
                    refine take_ (i := 2) (N := some 116) (v := ?_) (a' := ?_) #[true, true, true, true, true, false, false] rfl rfl (by kernel_rfl) (fun _ _ _ h => h) (Or.inl ⟨by rfl, ?_⟩) hHeld ?_ ?_
                    rotate_left
                    · rintro w' ⟨s0, s1_⟩
                      go_simp
                      with_reducible rfl
                    rotate_left
                    · simp only [Act.put, List.setIfInBounds_toArray, List.set_cons_zero, List.set_cons_succ, i64_w, i32_w]
                      rfl
                    refine pure_ (i := 5) (N := some 2) (v := ?_) (a' := ?_) #[true, true, true, true, true, true, false] rfl rfl (by kernel_rfl) (fun _ _ _ h => h) (Or.inl ⟨by rfl, ?_⟩) ?_ ?_
                    rotate_left
                    · intro w'
                      go_simp
                      with_reducible rfl
                    rotate_left
                    · simp only [Act.put, List.setIfInBounds_toArray, List.set_cons_zero, List.set_cons_succ, i64_w, i32_w]
                      rfl
                    refine pure_ (i := 6) (N := some 3) (v := ?_) (a' := ?_) #[true, true, true, true, true, true, true] rfl rfl (by kernel_rfl) (fun _ _ _ h => h) (Or.inl ⟨by rfl, ?_⟩) ?_ ?_
                    rotate_left
                    · intro w'
                      go_simp
                      with_reducible rfl
                    rotate_left
                    · simp only [Act.put, List.setIfInBounds_toArray, List.set_cons_zero, List.set_cons_succ, i64_w, i32_w]
                      rfl
                    refine done_ (by kernel_rfl) ?_
                    try go_wp2
                    go_ret2
                    exact ⟨_, by first | rfl | (simp only [Go.IntWalk.i64_left]; first | done | rfl) | (simp [errW_none, errW_some] <;> rfl) | (simp only [← hji2, ← hji11]; first | rfl | (simp [errW_none, errW_some] <;> rfl)) | (simp [*, errW_none, errW_some] <;> rfl), by (with_reducible repeat (first | apply Kd.R_alloc | apply Kd.R_drewN | apply Kd.R_drew)); exact HL307_0.out, by repeat (first | (with_reducible first | exact HB.out | apply below_alloc | apply pw_below_drewN | apply below_drew1) | exact HB.out)⟩
                  · rw [if_neg c83] at H
                    exact absurd H (by simp)
          · rw [if_neg c13] at H
            exact absurd H (by simp)
        · rw [if_neg c12] at H
          exact absurd H (by simp)

end Go.Proofs.YtdpmpoakjhhaaaaGreatDoor.QFnMirroredStrips
