-- Written by own_print.py of this session's repo over the kit's print (its output, turned at some places).
import Derived.Test.YtkpidjmhdagkfaaGreatDoorQFnImposedx0
import Derived.Test.YtkpidjmhdagkfaaGreatDoorQFnImposedx1
import Derived.Test.YtkpidjmhdagkfaaGreatDoorQFnImposedx4
namespace Go.Proofs.YtkpidjmhdagkfaaGreatDoor.QFnImposed
open Go.RowKit Go.Proofs.YtkpidjmhdagkfaaGreatDoorW.PrintWords Go.Proofs.YtkpidjmhdagkfaaGreatDoorW.PrintLast Go.Proofs.YtkpidjmhdagkfaaGreatDoorW.PrintMore
attribute [local go_sem] fU fT gP gQ fw fA fQ fV
set_option maxHeartbeats 8000000
set_option maxRecDepth 100000
set_option linter.unusedVariables false
set_option linter.unusedSimpArgs false
def bS.l0 : Nat → Int → Int → Int → Int → List Int → List Int → Int → Int → Option (Int × Int × ByteArray × Int × Int)
 | 0, _, _, _, _, _, _, _, _ => none
 | k + 1, x5, x6, x7, x9, x11, x1000, x1001, x1002 => if (wrap64 (x7 + x9)) > 0 then ((bf.f x1000 x1001 x1002 (wrap64 (x7 + x9))).bind fun bt239 => (if bt239.1 < x7 then ((bf.f x1000 bt239.2.1 bt239.2.2 2).bind fun bt242 => (if 0 ≤ bt242.1 then (if bt242.1 < 2 then (if x11.length < 140737488355328 then (bS.l0 k x5 x6 (wrap64 (x7 - 1)) x9 (x11 ++ [bt (⟨#[76, 82]⟩ : ByteArray) bt242.1]) x1000 bt242.2.1 bt242.2.2) else (none)) else (none)) else (none))) else ((bf.f x1000 bt239.2.1 bt239.2.2 2).bind fun bt248 => (if 0 ≤ bt248.1 then (if bt248.1 < 2 then (if x11.length < 140737488355328 then (bS.l0 k x5 x6 x7 (wrap64 (x9 - 1)) (x11 ++ [bt (⟨#[84, 66]⟩ : ByteArray) bt248.1]) x1000 bt248.2.1 bt248.2.2) else (none)) else (none)) else (none))))) else ((bf.f x1000 x1001 x1002 40).bind fun bt254 => (if bt254.1 = 0 then (if (strOfNums x11).size + 1 ≤ 9223372036854775807 then (some (x5, x6, (strOfNums x11) ++ (⟨#[76]⟩ : ByteArray), bt254.2.1, bt254.2.2)) else (none)) else (if bt254.1 = 1 then (some (x5, x6, (⟨#[120]⟩ : ByteArray), bt254.2.1, bt254.2.2)) else (some (x5, x6, strOfNums x11, bt254.2.1, bt254.2.2)))))
def bS.f (k : Nat) (s0_0 : List Int) (s0_1 : Int) (s0_2 : Int) : Option (Int × Int × ByteArray × Int × Int) := (eQ.f s0_0 s0_1 s0_2).bind fun bt226 => ((eQ.f s0_0 bt226.2.1 bt226.2.2).bind fun bt229 => ((bL.f bt226.1).bind fun bt232 => ((bL.f bt229.1).bind fun bt234 => (bS.l0 k bt226.1 bt229.1 bt232.1 bt234.1 (([] : List Int)) s0_0 bt229.2.1 bt229.2.2))))
theorem bS.dC : ∀ k, (∀ y0 y1 y2 y3 y4 y5 y6 y7, LeO (bS.l0 k y0 y1 y2 y3 y4 y5 y6 y7) (bS.l0 (k + 1) y0 y1 y2 y3 y4 y5 y6 y7))
 | 0 => fun _ _ _ _ _ _ _ _ r h => by simp [bS.l0] at h
 | k + 1 => by
  have ih0 := bS.dC k
  ·intro y0 y1 y2 y3 y4 y5 y6 y7
   unfold bS.l0
   repeat' first | (with_reducible first | exact ih0 .. | exact LeO.refl .. | exact LeO.none .. | refine LeO.ite ?_ ?_ | refine LeO.bind ?_ (fun _ => ?_))
theorem bS.mono : ∀ a0 a1 a2 k, LeO (bS.f k a0 a1 a2) (bS.f (k + 1) a0 a1 a2) := by
 intro a0 a1 a2 k
 have ih0 := bS.dC k
 unfold bS.f
 repeat' first | (with_reducible first | exact ih0 .. | exact LeO.refl .. | exact LeO.none .. | refine LeO.ite ?_ ?_ | refine LeO.bind ?_ (fun _ => ?_))
theorem bS.calls (k : Nat) (g : Nat) (s0_0 : List Int) (s0_1 : Int) (s0_2 : Int) (r1 : Int) (r2 : Int) (r3 : ByteArray) (r4 : Int) (r5 : Int) (w0 w : World) (hI : ak w0 w g s0_0 s0_1 s0_2) (hB : Below w0.heap.size w0 w) (h : bS.f k s0_0 s0_1 s0_2 = some (r1, r2, r3, r4, r5)) :
  Calls Tryz.prog 41 #[.pointer (some ⟨g, 0, none⟩)] w fun e w' => e = .returned (.tuple #[.int .i64 r1, .int .i64 r2, .string r3]) ∧ ak w0 w' g s0_0 r4 r5 ∧ Below w0.heap.size w0 w' ∧ az w w' g none := by
 have HI0 := a_ hI
 have HK := a_ (az.refl w g none)
 have HL := af.mk hB.size
 clear hI
 have HW0 := af.mk hB.size
 have HB := a_ hB
 clear hB
 have H : ((eQ.f s0_0 s0_1 s0_2).bind fun D6 => ((eQ.f s0_0 D6.2.1 D6.2.2).bind fun D7 => ((bL.f D6.1).bind fun F8 => ((bL.f D7.1).bind fun F9 => (bS.l0 k D6.1 D7.1 F8.1 F9.1 (([] : List Int)) s0_0 D7.2.1 D7.2.2))))) = some (r1, r2, r3, r4, r5) := h
 clear h
 replace H := bo_ H; obtain ⟨⟨C3, E2, E3⟩, A2, H⟩ := H; (try dsimp only at H)
 replace H := bo_ H; obtain ⟨⟨C4, E4, E5⟩, A3, H⟩ := H; (try dsimp only at H)
 replace H := bo_ H; obtain ⟨⟨E6, F6⟩, A4, H⟩ := H; (try dsimp only at H)
 replace H := bo_ H; obtain ⟨⟨E7, F7⟩, A5, H⟩ := H; (try dsimp only at H)
 obtain ⟨G0, E8⟩ : ∃ y_ : List Int, y_ = (([] : List Int)) := ⟨_, rfl⟩
 replace H : (bS.l0 k C3 C4 E6 E7 G0 s0_0 E4 E5) = some (r1, r2, r3, r4, r5) := rh_ E8 H
 have C5 := a_ E8
 clear E8
 have H' := a_ H
 clear H
 go_enter Tryz.func41, Tryz.ntmps41
 go_wp2_with (first | (go_at_call 79; (with_reducible refine (eQ.calls g s0_0 s0_1 s0_2 C3 E2 E3 w0 _ ?side1 ?side2 A2.out).mono ?_); (case side1 => exact eO); (case side2 => exact gq); rintro e w6 ⟨rfl, hi, hb, hk⟩; replace HK := a_ (az.trans fB hk (.inl rfl)); replace HB := a_ (hb); replace HI0 := a_ (hi); (try clear hb); (try clear hk); (try clear hi)) | (go_at_call 79; (with_reducible refine (eQ.calls g s0_0 E2 E3 C4 E4 E5 w0 _ ?side1 ?side2 A3.out).mono ?_); (case side1 => exact eO); (case side2 => exact gq); rintro e w7 ⟨rfl, hi, hb, hk⟩; replace HK := a_ (az.trans fB hk (.inl rfl)); replace HB := a_ (hb); replace HI0 := a_ (hi); (try clear hb); (try clear hk); (try clear hi)) | (go_at_call 80; (with_reducible refine (bL.calls C3 E6 F6 _ A4.out).mono ?_); rintro e w' ⟨rfl, ⟨nd, rfl⟩⟩; (try first | exact ⟨rfl, _, World.drewN_drewN _ _ _⟩ | exact ⟨rfl, _, Eq.trans (World.drewN_drewN _ _ _) (congrArg (World.drewN _) (Nat.add_assoc _ _ _))⟩)) | (go_at_call 80; (with_reducible refine (bL.calls C4 E7 F7 _ A5.out).mono ?_); rintro e w' ⟨rfl, ⟨nd, rfl⟩⟩; (try first | exact ⟨rfl, _, World.drewN_drewN _ _ _⟩ | exact ⟨rfl, _, Eq.trans (World.drewN_drewN _ _ _) (congrArg (World.drewN _) (Nat.add_assoc _ _ _))⟩)) | ((with_reducible refine bn (N := 26) rfl ?_); refine Kd.iM (Kd.int .u8) _ 5 ?hg (N := 26) ?hd (xs := ([] : List Int)) (inner := []) (ok := fun _ => True) (okp := fun _ => True) ?hr ?hp (fun _ hk => hk) trivial (Below.refl _ _) (Nat.le_refl _) (by simp) ?_; (case hd => rfl); (case hg => rfl); (case hr => first | (go_simp; done) | (go_simp; rfl)); (case hp => exact (dG.none _ _)); intro G1 w8 ho9 hb hg_ hnew_; clear hg_ hnew_; (first | rw [← C5.out] at ho9 | (simp only [Int.reduceToNat] at ho9; rw [← C5.out] at ho9)); have E9 := a_ (Kd.bE ho9 (eB (w := w) (g := g) (row := none) fB)); replace HK := a_ (az.trans fB (az.of_below hb g none) (.inl rfl)); replace HB := cK gq hb; replace HI0 := a_ (ak.below eO hb); clear hb ho9))
 repeat (go_quiet (first | (go_at_call 79; (with_reducible refine (eQ.calls g s0_0 s0_1 s0_2 C3 E2 E3 w0 _ ?side1 ?side2 A2.out).mono ?_); (case side1 => exact eO); (case side2 => exact gq); rintro e w6 ⟨rfl, hi, hb, hk⟩; replace HK := a_ (az.trans fB hk (.inl rfl)); replace HB := a_ (hb); replace HI0 := a_ (hi); (try clear hb); (try clear hk); (try clear hi)) | (go_at_call 79; (with_reducible refine (eQ.calls g s0_0 E2 E3 C4 E4 E5 w0 _ ?side1 ?side2 A3.out).mono ?_); (case side1 => exact eO); (case side2 => exact gq); rintro e w7 ⟨rfl, hi, hb, hk⟩; replace HK := a_ (az.trans fB hk (.inl rfl)); replace HB := a_ (hb); replace HI0 := a_ (hi); (try clear hb); (try clear hk); (try clear hi)) | (go_at_call 80; (with_reducible refine (bL.calls C3 E6 F6 _ A4.out).mono ?_); rintro e w' ⟨rfl, ⟨nd, rfl⟩⟩; (try first | exact ⟨rfl, _, World.drewN_drewN _ _ _⟩ | exact ⟨rfl, _, Eq.trans (World.drewN_drewN _ _ _) (congrArg (World.drewN _) (Nat.add_assoc _ _ _))⟩)) | (go_at_call 80; (with_reducible refine (bL.calls C4 E7 F7 _ A5.out).mono ?_); rintro e w' ⟨rfl, ⟨nd, rfl⟩⟩; (try first | exact ⟨rfl, _, World.drewN_drewN _ _ _⟩ | exact ⟨rfl, _, Eq.trans (World.drewN_drewN _ _ _) (congrArg (World.drewN _) (Nat.add_assoc _ _ _))⟩)) | ((with_reducible refine bn (N := 26) rfl ?_); refine Kd.iM (Kd.int .u8) _ 5 ?hg (N := 26) ?hd (xs := ([] : List Int)) (inner := []) (ok := fun _ => True) (okp := fun _ => True) ?hr ?hp (fun _ hk => hk) trivial (Below.refl _ _) (Nat.le_refl _) (by simp) ?_; (case hd => rfl); (case hg => rfl); (case hr => first | (go_simp; done) | (go_simp; rfl)); (case hp => exact (dG.none _ _)); intro G1 w8 ho9 hb hg_ hnew_; clear hg_ hnew_; (first | rw [← C5.out] at ho9 | (simp only [Int.reduceToNat] at ho9; rw [← C5.out] at ho9)); have E9 := a_ (Kd.bE ho9 (eB (w := w) (g := g) (row := none) fB)); replace HK := a_ (az.trans fB (az.of_below hb g none) (.inl rfl)); replace HB := cK gq hb; replace HI0 := a_ (ak.below eO hb); clear hb ho9)); try go_wp2_with (first | (go_at_call 79; (with_reducible refine (eQ.calls g s0_0 s0_1 s0_2 C3 E2 E3 w0 _ ?side1 ?side2 A2.out).mono ?_); (case side1 => exact eO); (case side2 => exact gq); rintro e w6 ⟨rfl, hi, hb, hk⟩; replace HK := a_ (az.trans fB hk (.inl rfl)); replace HB := a_ (hb); replace HI0 := a_ (hi); (try clear hb); (try clear hk); (try clear hi)) | (go_at_call 79; (with_reducible refine (eQ.calls g s0_0 E2 E3 C4 E4 E5 w0 _ ?side1 ?side2 A3.out).mono ?_); (case side1 => exact eO); (case side2 => exact gq); rintro e w7 ⟨rfl, hi, hb, hk⟩; replace HK := a_ (az.trans fB hk (.inl rfl)); replace HB := a_ (hb); replace HI0 := a_ (hi); (try clear hb); (try clear hk); (try clear hi)) | (go_at_call 80; (with_reducible refine (bL.calls C3 E6 F6 _ A4.out).mono ?_); rintro e w' ⟨rfl, ⟨nd, rfl⟩⟩; (try first | exact ⟨rfl, _, World.drewN_drewN _ _ _⟩ | exact ⟨rfl, _, Eq.trans (World.drewN_drewN _ _ _) (congrArg (World.drewN _) (Nat.add_assoc _ _ _))⟩)) | (go_at_call 80; (with_reducible refine (bL.calls C4 E7 F7 _ A5.out).mono ?_); rintro e w' ⟨rfl, ⟨nd, rfl⟩⟩; (try first | exact ⟨rfl, _, World.drewN_drewN _ _ _⟩ | exact ⟨rfl, _, Eq.trans (World.drewN_drewN _ _ _) (congrArg (World.drewN _) (Nat.add_assoc _ _ _))⟩)) | ((with_reducible refine bn (N := 26) rfl ?_); refine Kd.iM (Kd.int .u8) _ 5 ?hg (N := 26) ?hd (xs := ([] : List Int)) (inner := []) (ok := fun _ => True) (okp := fun _ => True) ?hr ?hp (fun _ hk => hk) trivial (Below.refl _ _) (Nat.le_refl _) (by simp) ?_; (case hd => rfl); (case hg => rfl); (case hr => first | (go_simp; done) | (go_simp; rfl)); (case hp => exact (dG.none _ _)); intro G1 w8 ho9 hb hg_ hnew_; clear hg_ hnew_; (first | rw [← C5.out] at ho9 | (simp only [Int.reduceToNat] at ho9; rw [← C5.out] at ho9)); have E9 := a_ (Kd.bE ho9 (eB (w := w) (g := g) (row := none) fB)); replace HK := a_ (az.trans fB (az.of_below hb g none) (.inl rfl)); replace HB := cK gq hb; replace HI0 := a_ (ak.below eO hb); clear hb ho9)))
 go_loopg [7, 9, 11] k (fun kq v7 v9 v11 w' => ∃ (B7 : Int) (C0 : Int) (B4 : List Int) (A6 : Int) (A7 : Int), v7 = .int .i64 B7 ∧ v9 = .int .i64 C0 ∧ af (bS.l0 kq C3 C4 B7 C0 B4 s0_0 A6 A7 = some (r1, r2, r3, r4, r5)) ∧ af (kq ≤ k) ∧ af (Kd.R (Kd.int .u8) 5 w' w.heap.size (fun _ => True) v11 B4) ∧ af (ak w0 w' g s0_0 A6 A7) ∧ af (az w w' g none) ∧ af (Below w0.heap.size w0 w'))
 case atStart => exact ⟨(E6), (E7), (G0), (E4), (E5), cz, cz, H', ⟨Nat.le_refl _⟩, ⟨by (with_reducible repeat (first | apply Kd.aC | apply Kd.aA | apply Kd.ay)); exact E9.out⟩, ⟨eO⟩, ⟨fB⟩, ⟨gq⟩⟩
 case round =>
  clear H'
  obtain ⟨B7, C0, B4, A6, A7, rfl, rfl, HA, HK1, A1, HI0, HK, HB⟩ := hrel
  cases gk with
  | zero => exact absurd HA.out (by simp [bS.l0])
  | succ k1 =>
   have H := HA.out
   clear HA
   simp only [bS.l0] at H
   by_cases c10 : (wrap64 (B7 + C0)) > 0
   ·rw [if_pos c10] at H
    have G2 := decide_eq_true c10
    clear c10
    replace H := bo_ H; obtain ⟨⟨C2, B0, B3⟩, F2, H⟩ := H; (try dsimp only at H)
    by_cases c12 : C2 < B7
    ·rw [if_pos c12] at H
     have G3 := decide_eq_true c12
     clear c12
     replace H := bo_ H; obtain ⟨⟨A8, D2, D3⟩, G4, H⟩ := H; (try dsimp only at H)
     replace H := ig_ H; obtain ⟨c14, H⟩ := H
     have H8 := decide_eq_true c14
     clear c14
     replace H := ig_ H; obtain ⟨c15, H⟩ := H
     have H9 := decide_eq_true c15
     clear c15
     replace H := ig_ H; obtain ⟨c17, H⟩ := H
     have LMc17 := a_ c17
     clear c17
     obtain ⟨G5, F0⟩ : ∃ y_ : List Int, y_ = (B4 ++ [bt (⟨#[76, 82]⟩ : ByteArray) A8]) := ⟨_, rfl⟩
     replace H : (bS.l0 k1 C3 C4 (wrap64 (B7 - 1)) C0 G5 s0_0 D2 D3) = some (r1, r2, r3, r4, r5) := rh_ F0 H
     have C8 := a_ F0
     clear F0
     have H' := a_ H
     clear H
     go_wp2_with (first | (go_at_call 52; (with_reducible refine (bf.calls g s0_0 A6 A7 (wrap64 (B7 + C0)) C2 B0 B3 w0 _ ?side1 ?side2 F2.out).mono ?_); (case side1 => exact eO); (case side2 => exact gq); rintro e H2 ⟨rfl, hi, hb, hk⟩; replace A1 := a_ (Kd.ae (Kd.dx (ak.apart (show ak w0 _ g s0_0 A6 A7 from eO) (ra_ A1.out) (by decide)) hk (fun _ h => h.2)) (fun _ h => h.1)); replace HK := a_ (az.trans fB hk (.inl rfl)); replace HB := a_ (hb); replace HI0 := a_ (hi); (try clear hb); (try clear hk); (try clear hi)) | (go_at_call 52; (with_reducible refine (bf.calls g s0_0 B0 B3 2 A8 D2 D3 w0 _ ?side1 ?side2 G4.out).mono ?_); (case side1 => exact eO); (case side2 => exact gq); rintro e H3 ⟨rfl, hi, hb, hk⟩; replace A1 := a_ (Kd.ae (Kd.dx (ak.apart (show ak w0 _ g s0_0 B0 B3 from eO) (ra_ A1.out) (by decide)) hk (fun _ h => h.2)) (fun _ h => h.1)); replace HK := a_ (az.trans fB hk (.inl rfl)); replace HB := a_ (hb); replace HI0 := a_ (hi); (try clear hb); (try clear hk); (try clear hi); have D8 : 0 ≤ (A8 : Int) := of_decide_eq_true aX; have D9 : A8 < (2 : Int) := of_decide_eq_true aX; have hx16 := jG (⟨#[76, 82]⟩ : ByteArray) A8; replace D8 := eq_true D8; replace D9 := eq_true D9) | ((with_reducible refine di (b := .append) (xs := #[.tmp 38, .tmp 42]) rfl ?_); at_builtin; refine Kd.fZ (Kd.int .u8) w.heap.size rfl (.tmp 38) (.tmp 42) 32 5 (.int .u8 0) 1 rfl Tryz.underlying32 info5 rfl (by decide) (by omega) u11 B4 (bt (⟨#[76, 82]⟩ : ByteArray) A8) [.int .u8 (bt (⟨#[76, 82]⟩ : ByteArray) A8)] (fun _ => True) (fun _ => False) rfl rfl ?aP (fun _ hk => hk.elim) ?aF ?aO (Below.refl _ _) ?aS ?aL ?_; (case aP => exact rfl); (case aF => exact (fun _ _ => trivial)); (case aO => exact (ra_ A1.out)); (case aS => exact (eB (w := w) (g := g) (row := none) fB)); (case aL => have := LMc17.out; omega); intro F3 H4 ho hb hg hat; rw [← C8.out] at ho; replace HB := a_ (gV gq HL.out hb); replace HI0 := a_ (ak.grown eO hg (ak.own_ne HI0.out A1.out (by decide))); replace HK := a_ (az.trans fB (az.iP hg g) (Kd.jD A1.out)); have C9 := a_ (ho); clear A1; clear ho hb hg hat))
     repeat (go_quiet (first | (go_at_call 52; (with_reducible refine (bf.calls g s0_0 A6 A7 (wrap64 (B7 + C0)) C2 B0 B3 w0 _ ?side1 ?side2 F2.out).mono ?_); (case side1 => exact eO); (case side2 => exact gq); rintro e H2 ⟨rfl, hi, hb, hk⟩; replace A1 := a_ (Kd.ae (Kd.dx (ak.apart (show ak w0 _ g s0_0 A6 A7 from eO) (ra_ A1.out) (by decide)) hk (fun _ h => h.2)) (fun _ h => h.1)); replace HK := a_ (az.trans fB hk (.inl rfl)); replace HB := a_ (hb); replace HI0 := a_ (hi); (try clear hb); (try clear hk); (try clear hi)) | (go_at_call 52; (with_reducible refine (bf.calls g s0_0 B0 B3 2 A8 D2 D3 w0 _ ?side1 ?side2 G4.out).mono ?_); (case side1 => exact eO); (case side2 => exact gq); rintro e H3 ⟨rfl, hi, hb, hk⟩; replace A1 := a_ (Kd.ae (Kd.dx (ak.apart (show ak w0 _ g s0_0 B0 B3 from eO) (ra_ A1.out) (by decide)) hk (fun _ h => h.2)) (fun _ h => h.1)); replace HK := a_ (az.trans fB hk (.inl rfl)); replace HB := a_ (hb); replace HI0 := a_ (hi); (try clear hb); (try clear hk); (try clear hi); have D8 : 0 ≤ (A8 : Int) := of_decide_eq_true aX; have D9 : A8 < (2 : Int) := of_decide_eq_true aX; have hx16 := jG (⟨#[76, 82]⟩ : ByteArray) A8; replace D8 := eq_true D8; replace D9 := eq_true D9) | ((with_reducible refine di (b := .append) (xs := #[.tmp 38, .tmp 42]) rfl ?_); at_builtin; refine Kd.fZ (Kd.int .u8) w.heap.size rfl (.tmp 38) (.tmp 42) 32 5 (.int .u8 0) 1 rfl Tryz.underlying32 info5 rfl (by decide) (by omega) u11 B4 (bt (⟨#[76, 82]⟩ : ByteArray) A8) [.int .u8 (bt (⟨#[76, 82]⟩ : ByteArray) A8)] (fun _ => True) (fun _ => False) rfl rfl ?aP (fun _ hk => hk.elim) ?aF ?aO (Below.refl _ _) ?aS ?aL ?_; (case aP => exact rfl); (case aF => exact (fun _ _ => trivial)); (case aO => exact (ra_ A1.out)); (case aS => exact (eB (w := w) (g := g) (row := none) fB)); (case aL => have := LMc17.out; omega); intro F3 H4 ho hb hg hat; rw [← C8.out] at ho; replace HB := a_ (gV gq HL.out hb); replace HI0 := a_ (ak.grown eO hg (ak.own_ne HI0.out A1.out (by decide))); replace HK := a_ (az.trans fB (az.iP hg g) (Kd.jD A1.out)); have C9 := a_ (ho); clear A1; clear ho hb hg hat)); try go_wp2_with (first | (go_at_call 52; (with_reducible refine (bf.calls g s0_0 A6 A7 (wrap64 (B7 + C0)) C2 B0 B3 w0 _ ?side1 ?side2 F2.out).mono ?_); (case side1 => exact eO); (case side2 => exact gq); rintro e H2 ⟨rfl, hi, hb, hk⟩; replace A1 := a_ (Kd.ae (Kd.dx (ak.apart (show ak w0 _ g s0_0 A6 A7 from eO) (ra_ A1.out) (by decide)) hk (fun _ h => h.2)) (fun _ h => h.1)); replace HK := a_ (az.trans fB hk (.inl rfl)); replace HB := a_ (hb); replace HI0 := a_ (hi); (try clear hb); (try clear hk); (try clear hi)) | (go_at_call 52; (with_reducible refine (bf.calls g s0_0 B0 B3 2 A8 D2 D3 w0 _ ?side1 ?side2 G4.out).mono ?_); (case side1 => exact eO); (case side2 => exact gq); rintro e H3 ⟨rfl, hi, hb, hk⟩; replace A1 := a_ (Kd.ae (Kd.dx (ak.apart (show ak w0 _ g s0_0 B0 B3 from eO) (ra_ A1.out) (by decide)) hk (fun _ h => h.2)) (fun _ h => h.1)); replace HK := a_ (az.trans fB hk (.inl rfl)); replace HB := a_ (hb); replace HI0 := a_ (hi); (try clear hb); (try clear hk); (try clear hi); have D8 : 0 ≤ (A8 : Int) := of_decide_eq_true aX; have D9 : A8 < (2 : Int) := of_decide_eq_true aX; have hx16 := jG (⟨#[76, 82]⟩ : ByteArray) A8; replace D8 := eq_true D8; replace D9 := eq_true D9) | ((with_reducible refine di (b := .append) (xs := #[.tmp 38, .tmp 42]) rfl ?_); at_builtin; refine Kd.fZ (Kd.int .u8) w.heap.size rfl (.tmp 38) (.tmp 42) 32 5 (.int .u8 0) 1 rfl Tryz.underlying32 info5 rfl (by decide) (by omega) u11 B4 (bt (⟨#[76, 82]⟩ : ByteArray) A8) [.int .u8 (bt (⟨#[76, 82]⟩ : ByteArray) A8)] (fun _ => True) (fun _ => False) rfl rfl ?aP (fun _ hk => hk.elim) ?aF ?aO (Below.refl _ _) ?aS ?aL ?_; (case aP => exact rfl); (case aF => exact (fun _ _ => trivial)); (case aO => exact (ra_ A1.out)); (case aS => exact (eB (w := w) (g := g) (row := none) fB)); (case aL => have := LMc17.out; omega); intro F3 H4 ho hb hg hat; rw [← C8.out] at ho; replace HB := a_ (gV gq HL.out hb); replace HI0 := a_ (ak.grown eO hg (ak.own_ne HI0.out A1.out (by decide))); replace HK := a_ (az.trans fB (az.iP hg g) (Kd.jD A1.out)); have C9 := a_ (ho); clear A1; clear ho hb hg hat)))
     try (have hw1_ := Go.IntWalk.i64_left (B7 + C0); (go_quiet (first | (go_at_call 52; (with_reducible refine (bf.calls g s0_0 A6 A7 (wrap64 (B7 + C0)) C2 B0 B3 w0 _ ?side1 ?side2 F2.out).mono ?_); (case side1 => exact eO); (case side2 => exact gq); rintro e H2 ⟨rfl, hi, hb, hk⟩; replace A1 := a_ (Kd.ae (Kd.dx (ak.apart (show ak w0 _ g s0_0 A6 A7 from eO) (ra_ A1.out) (by decide)) hk (fun _ h => h.2)) (fun _ h => h.1)); replace HK := a_ (az.trans fB hk (.inl rfl)); replace HB := a_ (hb); replace HI0 := a_ (hi); (try clear hb); (try clear hk); (try clear hi)) | (go_at_call 52; (with_reducible refine (bf.calls g s0_0 B0 B3 2 A8 D2 D3 w0 _ ?side1 ?side2 G4.out).mono ?_); (case side1 => exact eO); (case side2 => exact gq); rintro e H3 ⟨rfl, hi, hb, hk⟩; replace A1 := a_ (Kd.ae (Kd.dx (ak.apart (show ak w0 _ g s0_0 B0 B3 from eO) (ra_ A1.out) (by decide)) hk (fun _ h => h.2)) (fun _ h => h.1)); replace HK := a_ (az.trans fB hk (.inl rfl)); replace HB := a_ (hb); replace HI0 := a_ (hi); (try clear hb); (try clear hk); (try clear hi); have D8 : 0 ≤ (A8 : Int) := of_decide_eq_true aX; have D9 : A8 < (2 : Int) := of_decide_eq_true aX; have hx16 := jG (⟨#[76, 82]⟩ : ByteArray) A8; replace D8 := eq_true D8; replace D9 := eq_true D9) | ((with_reducible refine di (b := .append) (xs := #[.tmp 38, .tmp 42]) rfl ?_); at_builtin; refine Kd.fZ (Kd.int .u8) w.heap.size rfl (.tmp 38) (.tmp 42) 32 5 (.int .u8 0) 1 rfl Tryz.underlying32 info5 rfl (by decide) (by omega) u11 B4 (bt (⟨#[76, 82]⟩ : ByteArray) A8) [.int .u8 (bt (⟨#[76, 82]⟩ : ByteArray) A8)] (fun _ => True) (fun _ => False) rfl rfl ?aP (fun _ hk => hk.elim) ?aF ?aO (Below.refl _ _) ?aS ?aL ?_; (case aP => exact rfl); (case aF => exact (fun _ _ => trivial)); (case aO => exact (ra_ A1.out)); (case aS => exact (eB (w := w) (g := g) (row := none) fB)); (case aL => have := LMc17.out; omega); intro F3 H4 ho hb hg hat; rw [← C8.out] at ho; replace HB := a_ (gV gq HL.out hb); replace HI0 := a_ (ak.grown eO hg (ak.own_ne HI0.out A1.out (by decide))); replace HK := a_ (az.trans fB (az.iP hg g) (Kd.jD A1.out)); have C9 := a_ (ho); clear A1; clear ho hb hg hat))); (try go_wp2_with (first | (go_at_call 52; (with_reducible refine (bf.calls g s0_0 A6 A7 (wrap64 (B7 + C0)) C2 B0 B3 w0 _ ?side1 ?side2 F2.out).mono ?_); (case side1 => exact eO); (case side2 => exact gq); rintro e H2 ⟨rfl, hi, hb, hk⟩; replace A1 := a_ (Kd.ae (Kd.dx (ak.apart (show ak w0 _ g s0_0 A6 A7 from eO) (ra_ A1.out) (by decide)) hk (fun _ h => h.2)) (fun _ h => h.1)); replace HK := a_ (az.trans fB hk (.inl rfl)); replace HB := a_ (hb); replace HI0 := a_ (hi); (try clear hb); (try clear hk); (try clear hi)) | (go_at_call 52; (with_reducible refine (bf.calls g s0_0 B0 B3 2 A8 D2 D3 w0 _ ?side1 ?side2 G4.out).mono ?_); (case side1 => exact eO); (case side2 => exact gq); rintro e H3 ⟨rfl, hi, hb, hk⟩; replace A1 := a_ (Kd.ae (Kd.dx (ak.apart (show ak w0 _ g s0_0 B0 B3 from eO) (ra_ A1.out) (by decide)) hk (fun _ h => h.2)) (fun _ h => h.1)); replace HK := a_ (az.trans fB hk (.inl rfl)); replace HB := a_ (hb); replace HI0 := a_ (hi); (try clear hb); (try clear hk); (try clear hi); have D8 : 0 ≤ (A8 : Int) := of_decide_eq_true aX; have D9 : A8 < (2 : Int) := of_decide_eq_true aX; have hx16 := jG (⟨#[76, 82]⟩ : ByteArray) A8; replace D8 := eq_true D8; replace D9 := eq_true D9) | ((with_reducible refine di (b := .append) (xs := #[.tmp 38, .tmp 42]) rfl ?_); at_builtin; refine Kd.fZ (Kd.int .u8) w.heap.size rfl (.tmp 38) (.tmp 42) 32 5 (.int .u8 0) 1 rfl Tryz.underlying32 info5 rfl (by decide) (by omega) u11 B4 (bt (⟨#[76, 82]⟩ : ByteArray) A8) [.int .u8 (bt (⟨#[76, 82]⟩ : ByteArray) A8)] (fun _ => True) (fun _ => False) rfl rfl ?aP (fun _ hk => hk.elim) ?aF ?aO (Below.refl _ _) ?aS ?aL ?_; (case aP => exact rfl); (case aF => exact (fun _ _ => trivial)); (case aO => exact (ra_ A1.out)); (case aS => exact (eB (w := w) (g := g) (row := none) fB)); (case aL => have := LMc17.out; omega); intro F3 H4 ho hb hg hat; rw [← C8.out] at ho; replace HB := a_ (gV gq HL.out hb); replace HI0 := a_ (ak.grown eO hg (ak.own_ne HI0.out A1.out (by decide))); replace HK := a_ (az.trans fB (az.iP hg g) (Kd.jD A1.out)); have C9 := a_ (ho); clear A1; clear ho hb hg hat))))
     go_roundg k1
     case measure => have := HK1.out; omega
     case rel => exact ⟨(wrap64 (B7 - 1)), (C0), (G5), (D2), (D3), cz, cz, H', ⟨kW⟩, ⟨by (with_reducible repeat (first | apply Kd.aC | apply Kd.aA | apply Kd.ay)); exact C9.out⟩, ⟨eO⟩, ⟨fB⟩, ⟨gq⟩⟩
    rw [if_neg c12] at H
    have G3 := decide_eq_false c12
    clear c12
    replace H := bo_ H; obtain ⟨⟨A9, D4, D5⟩, G6, H⟩ := H; (try dsimp only at H)
    replace H := ig_ H; obtain ⟨c22, H⟩ := H
    have I0 := decide_eq_true c22
    clear c22
    replace H := ig_ H; obtain ⟨c23, H⟩ := H
    have I1 := decide_eq_true c23
    clear c23
    replace H := ig_ H; obtain ⟨c25, H⟩ := H
    have LMc25 := a_ c25
    clear c25
    obtain ⟨G7, F1⟩ : ∃ y_ : List Int, y_ = (B4 ++ [bt (⟨#[84, 66]⟩ : ByteArray) A9]) := ⟨_, rfl⟩
    replace H : (bS.l0 k1 C3 C4 B7 (wrap64 (C0 - 1)) G7 s0_0 D4 D5) = some (r1, r2, r3, r4, r5) := rh_ F1 H
    have D0 := a_ F1
    clear F1
    have H' := a_ H
    clear H
    go_wp2_with (first | (go_at_call 52; (with_reducible refine (bf.calls g s0_0 A6 A7 (wrap64 (B7 + C0)) C2 B0 B3 w0 _ ?side1 ?side2 F2.out).mono ?_); (case side1 => exact eO); (case side2 => exact gq); rintro e H5 ⟨rfl, hi, hb, hk⟩; replace A1 := a_ (Kd.ae (Kd.dx (ak.apart (show ak w0 _ g s0_0 A6 A7 from eO) (ra_ A1.out) (by decide)) hk (fun _ h => h.2)) (fun _ h => h.1)); replace HK := a_ (az.trans fB hk (.inl rfl)); replace HB := a_ (hb); replace HI0 := a_ (hi); (try clear hb); (try clear hk); (try clear hi)) | (go_at_call 52; (with_reducible refine (bf.calls g s0_0 B0 B3 2 A9 D4 D5 w0 _ ?side1 ?side2 G6.out).mono ?_); (case side1 => exact eO); (case side2 => exact gq); rintro e H6 ⟨rfl, hi, hb, hk⟩; replace A1 := a_ (Kd.ae (Kd.dx (ak.apart (show ak w0 _ g s0_0 B0 B3 from eO) (ra_ A1.out) (by decide)) hk (fun _ h => h.2)) (fun _ h => h.1)); replace HK := a_ (az.trans fB hk (.inl rfl)); replace HB := a_ (hb); replace HI0 := a_ (hi); (try clear hb); (try clear hk); (try clear hi); have E0 : 0 ≤ (A9 : Int) := of_decide_eq_true aX; have E1 : A9 < (2 : Int) := of_decide_eq_true aX; have hx24 := jG (⟨#[84, 66]⟩ : ByteArray) A9; replace E0 := eq_true E0; replace E1 := eq_true E1) | ((with_reducible refine di (b := .append) (xs := #[.tmp 46, .tmp 50]) rfl ?_); at_builtin; refine Kd.fZ (Kd.int .u8) w.heap.size rfl (.tmp 46) (.tmp 50) 32 5 (.int .u8 0) 1 rfl Tryz.underlying32 info5 rfl (by decide) (by omega) u11 B4 (bt (⟨#[84, 66]⟩ : ByteArray) A9) [.int .u8 (bt (⟨#[84, 66]⟩ : ByteArray) A9)] (fun _ => True) (fun _ => False) rfl rfl ?aP (fun _ hk => hk.elim) ?aF ?aO (Below.refl _ _) ?aS ?aL ?_; (case aP => exact rfl); (case aF => exact (fun _ _ => trivial)); (case aO => exact (ra_ A1.out)); (case aS => exact (eB (w := w) (g := g) (row := none) fB)); (case aL => have := LMc25.out; omega); intro F4 H7 ho hb hg hat; rw [← D0.out] at ho; replace HB := a_ (gV gq HL.out hb); replace HI0 := a_ (ak.grown eO hg (ak.own_ne HI0.out A1.out (by decide))); replace HK := a_ (az.trans fB (az.iP hg g) (Kd.jD A1.out)); have D1 := a_ (ho); clear A1; clear ho hb hg hat))
    repeat (go_quiet (first | (go_at_call 52; (with_reducible refine (bf.calls g s0_0 A6 A7 (wrap64 (B7 + C0)) C2 B0 B3 w0 _ ?side1 ?side2 F2.out).mono ?_); (case side1 => exact eO); (case side2 => exact gq); rintro e H5 ⟨rfl, hi, hb, hk⟩; replace A1 := a_ (Kd.ae (Kd.dx (ak.apart (show ak w0 _ g s0_0 A6 A7 from eO) (ra_ A1.out) (by decide)) hk (fun _ h => h.2)) (fun _ h => h.1)); replace HK := a_ (az.trans fB hk (.inl rfl)); replace HB := a_ (hb); replace HI0 := a_ (hi); (try clear hb); (try clear hk); (try clear hi)) | (go_at_call 52; (with_reducible refine (bf.calls g s0_0 B0 B3 2 A9 D4 D5 w0 _ ?side1 ?side2 G6.out).mono ?_); (case side1 => exact eO); (case side2 => exact gq); rintro e H6 ⟨rfl, hi, hb, hk⟩; replace A1 := a_ (Kd.ae (Kd.dx (ak.apart (show ak w0 _ g s0_0 B0 B3 from eO) (ra_ A1.out) (by decide)) hk (fun _ h => h.2)) (fun _ h => h.1)); replace HK := a_ (az.trans fB hk (.inl rfl)); replace HB := a_ (hb); replace HI0 := a_ (hi); (try clear hb); (try clear hk); (try clear hi); have E0 : 0 ≤ (A9 : Int) := of_decide_eq_true aX; have E1 : A9 < (2 : Int) := of_decide_eq_true aX; have hx24 := jG (⟨#[84, 66]⟩ : ByteArray) A9; replace E0 := eq_true E0; replace E1 := eq_true E1) | ((with_reducible refine di (b := .append) (xs := #[.tmp 46, .tmp 50]) rfl ?_); at_builtin; refine Kd.fZ (Kd.int .u8) w.heap.size rfl (.tmp 46) (.tmp 50) 32 5 (.int .u8 0) 1 rfl Tryz.underlying32 info5 rfl (by decide) (by omega) u11 B4 (bt (⟨#[84, 66]⟩ : ByteArray) A9) [.int .u8 (bt (⟨#[84, 66]⟩ : ByteArray) A9)] (fun _ => True) (fun _ => False) rfl rfl ?aP (fun _ hk => hk.elim) ?aF ?aO (Below.refl _ _) ?aS ?aL ?_; (case aP => exact rfl); (case aF => exact (fun _ _ => trivial)); (case aO => exact (ra_ A1.out)); (case aS => exact (eB (w := w) (g := g) (row := none) fB)); (case aL => have := LMc25.out; omega); intro F4 H7 ho hb hg hat; rw [← D0.out] at ho; replace HB := a_ (gV gq HL.out hb); replace HI0 := a_ (ak.grown eO hg (ak.own_ne HI0.out A1.out (by decide))); replace HK := a_ (az.trans fB (az.iP hg g) (Kd.jD A1.out)); have D1 := a_ (ho); clear A1; clear ho hb hg hat)); try go_wp2_with (first | (go_at_call 52; (with_reducible refine (bf.calls g s0_0 A6 A7 (wrap64 (B7 + C0)) C2 B0 B3 w0 _ ?side1 ?side2 F2.out).mono ?_); (case side1 => exact eO); (case side2 => exact gq); rintro e H5 ⟨rfl, hi, hb, hk⟩; replace A1 := a_ (Kd.ae (Kd.dx (ak.apart (show ak w0 _ g s0_0 A6 A7 from eO) (ra_ A1.out) (by decide)) hk (fun _ h => h.2)) (fun _ h => h.1)); replace HK := a_ (az.trans fB hk (.inl rfl)); replace HB := a_ (hb); replace HI0 := a_ (hi); (try clear hb); (try clear hk); (try clear hi)) | (go_at_call 52; (with_reducible refine (bf.calls g s0_0 B0 B3 2 A9 D4 D5 w0 _ ?side1 ?side2 G6.out).mono ?_); (case side1 => exact eO); (case side2 => exact gq); rintro e H6 ⟨rfl, hi, hb, hk⟩; replace A1 := a_ (Kd.ae (Kd.dx (ak.apart (show ak w0 _ g s0_0 B0 B3 from eO) (ra_ A1.out) (by decide)) hk (fun _ h => h.2)) (fun _ h => h.1)); replace HK := a_ (az.trans fB hk (.inl rfl)); replace HB := a_ (hb); replace HI0 := a_ (hi); (try clear hb); (try clear hk); (try clear hi); have E0 : 0 ≤ (A9 : Int) := of_decide_eq_true aX; have E1 : A9 < (2 : Int) := of_decide_eq_true aX; have hx24 := jG (⟨#[84, 66]⟩ : ByteArray) A9; replace E0 := eq_true E0; replace E1 := eq_true E1) | ((with_reducible refine di (b := .append) (xs := #[.tmp 46, .tmp 50]) rfl ?_); at_builtin; refine Kd.fZ (Kd.int .u8) w.heap.size rfl (.tmp 46) (.tmp 50) 32 5 (.int .u8 0) 1 rfl Tryz.underlying32 info5 rfl (by decide) (by omega) u11 B4 (bt (⟨#[84, 66]⟩ : ByteArray) A9) [.int .u8 (bt (⟨#[84, 66]⟩ : ByteArray) A9)] (fun _ => True) (fun _ => False) rfl rfl ?aP (fun _ hk => hk.elim) ?aF ?aO (Below.refl _ _) ?aS ?aL ?_; (case aP => exact rfl); (case aF => exact (fun _ _ => trivial)); (case aO => exact (ra_ A1.out)); (case aS => exact (eB (w := w) (g := g) (row := none) fB)); (case aL => have := LMc25.out; omega); intro F4 H7 ho hb hg hat; rw [← D0.out] at ho; replace HB := a_ (gV gq HL.out hb); replace HI0 := a_ (ak.grown eO hg (ak.own_ne HI0.out A1.out (by decide))); replace HK := a_ (az.trans fB (az.iP hg g) (Kd.jD A1.out)); have D1 := a_ (ho); clear A1; clear ho hb hg hat)))
    try (have hw2_ := Go.IntWalk.i64_left (B7 + C0); (go_quiet (first | (go_at_call 52; (with_reducible refine (bf.calls g s0_0 A6 A7 (wrap64 (B7 + C0)) C2 B0 B3 w0 _ ?side1 ?side2 F2.out).mono ?_); (case side1 => exact eO); (case side2 => exact gq); rintro e H5 ⟨rfl, hi, hb, hk⟩; replace A1 := a_ (Kd.ae (Kd.dx (ak.apart (show ak w0 _ g s0_0 A6 A7 from eO) (ra_ A1.out) (by decide)) hk (fun _ h => h.2)) (fun _ h => h.1)); replace HK := a_ (az.trans fB hk (.inl rfl)); replace HB := a_ (hb); replace HI0 := a_ (hi); (try clear hb); (try clear hk); (try clear hi)) | (go_at_call 52; (with_reducible refine (bf.calls g s0_0 B0 B3 2 A9 D4 D5 w0 _ ?side1 ?side2 G6.out).mono ?_); (case side1 => exact eO); (case side2 => exact gq); rintro e H6 ⟨rfl, hi, hb, hk⟩; replace A1 := a_ (Kd.ae (Kd.dx (ak.apart (show ak w0 _ g s0_0 B0 B3 from eO) (ra_ A1.out) (by decide)) hk (fun _ h => h.2)) (fun _ h => h.1)); replace HK := a_ (az.trans fB hk (.inl rfl)); replace HB := a_ (hb); replace HI0 := a_ (hi); (try clear hb); (try clear hk); (try clear hi); have E0 : 0 ≤ (A9 : Int) := of_decide_eq_true aX; have E1 : A9 < (2 : Int) := of_decide_eq_true aX; have hx24 := jG (⟨#[84, 66]⟩ : ByteArray) A9; replace E0 := eq_true E0; replace E1 := eq_true E1) | ((with_reducible refine di (b := .append) (xs := #[.tmp 46, .tmp 50]) rfl ?_); at_builtin; refine Kd.fZ (Kd.int .u8) w.heap.size rfl (.tmp 46) (.tmp 50) 32 5 (.int .u8 0) 1 rfl Tryz.underlying32 info5 rfl (by decide) (by omega) u11 B4 (bt (⟨#[84, 66]⟩ : ByteArray) A9) [.int .u8 (bt (⟨#[84, 66]⟩ : ByteArray) A9)] (fun _ => True) (fun _ => False) rfl rfl ?aP (fun _ hk => hk.elim) ?aF ?aO (Below.refl _ _) ?aS ?aL ?_; (case aP => exact rfl); (case aF => exact (fun _ _ => trivial)); (case aO => exact (ra_ A1.out)); (case aS => exact (eB (w := w) (g := g) (row := none) fB)); (case aL => have := LMc25.out; omega); intro F4 H7 ho hb hg hat; rw [← D0.out] at ho; replace HB := a_ (gV gq HL.out hb); replace HI0 := a_ (ak.grown eO hg (ak.own_ne HI0.out A1.out (by decide))); replace HK := a_ (az.trans fB (az.iP hg g) (Kd.jD A1.out)); have D1 := a_ (ho); clear A1; clear ho hb hg hat))); (try go_wp2_with (first | (go_at_call 52; (with_reducible refine (bf.calls g s0_0 A6 A7 (wrap64 (B7 + C0)) C2 B0 B3 w0 _ ?side1 ?side2 F2.out).mono ?_); (case side1 => exact eO); (case side2 => exact gq); rintro e H5 ⟨rfl, hi, hb, hk⟩; replace A1 := a_ (Kd.ae (Kd.dx (ak.apart (show ak w0 _ g s0_0 A6 A7 from eO) (ra_ A1.out) (by decide)) hk (fun _ h => h.2)) (fun _ h => h.1)); replace HK := a_ (az.trans fB hk (.inl rfl)); replace HB := a_ (hb); replace HI0 := a_ (hi); (try clear hb); (try clear hk); (try clear hi)) | (go_at_call 52; (with_reducible refine (bf.calls g s0_0 B0 B3 2 A9 D4 D5 w0 _ ?side1 ?side2 G6.out).mono ?_); (case side1 => exact eO); (case side2 => exact gq); rintro e H6 ⟨rfl, hi, hb, hk⟩; replace A1 := a_ (Kd.ae (Kd.dx (ak.apart (show ak w0 _ g s0_0 B0 B3 from eO) (ra_ A1.out) (by decide)) hk (fun _ h => h.2)) (fun _ h => h.1)); replace HK := a_ (az.trans fB hk (.inl rfl)); replace HB := a_ (hb); replace HI0 := a_ (hi); (try clear hb); (try clear hk); (try clear hi); have E0 : 0 ≤ (A9 : Int) := of_decide_eq_true aX; have E1 : A9 < (2 : Int) := of_decide_eq_true aX; have hx24 := jG (⟨#[84, 66]⟩ : ByteArray) A9; replace E0 := eq_true E0; replace E1 := eq_true E1) | ((with_reducible refine di (b := .append) (xs := #[.tmp 46, .tmp 50]) rfl ?_); at_builtin; refine Kd.fZ (Kd.int .u8) w.heap.size rfl (.tmp 46) (.tmp 50) 32 5 (.int .u8 0) 1 rfl Tryz.underlying32 info5 rfl (by decide) (by omega) u11 B4 (bt (⟨#[84, 66]⟩ : ByteArray) A9) [.int .u8 (bt (⟨#[84, 66]⟩ : ByteArray) A9)] (fun _ => True) (fun _ => False) rfl rfl ?aP (fun _ hk => hk.elim) ?aF ?aO (Below.refl _ _) ?aS ?aL ?_; (case aP => exact rfl); (case aF => exact (fun _ _ => trivial)); (case aO => exact (ra_ A1.out)); (case aS => exact (eB (w := w) (g := g) (row := none) fB)); (case aL => have := LMc25.out; omega); intro F4 H7 ho hb hg hat; rw [← D0.out] at ho; replace HB := a_ (gV gq HL.out hb); replace HI0 := a_ (ak.grown eO hg (ak.own_ne HI0.out A1.out (by decide))); replace HK := a_ (az.trans fB (az.iP hg g) (Kd.jD A1.out)); have D1 := a_ (ho); clear A1; clear ho hb hg hat))))
    go_roundg k1
    case measure => have := HK1.out; omega
    case rel => exact ⟨(B7), (wrap64 (C0 - 1)), (G7), (D4), (D5), cz, cz, H', ⟨kW⟩, ⟨by (with_reducible repeat (first | apply Kd.aC | apply Kd.aA | apply Kd.ay)); exact D1.out⟩, ⟨eO⟩, ⟨fB⟩, ⟨gq⟩⟩
   rw [if_neg c10] at H
   have G2 := decide_eq_false c10
   clear c10
   replace H := bo_ H; obtain ⟨⟨C1, C6, C7⟩, F5, H⟩ := H; (try dsimp only at H)
   by_cases c30 : C1 = 0
   ·rw [if_pos c30] at H
    have G8 : (C1 == 0) = true := beq_iff_eq.mpr c30
    have G9 : (C1 != 0) = false := bne_eq_false_iff_eq.mpr c30
    clear c30
    replace H := ig_ H; obtain ⟨c31, H⟩ := H
    have I2 := eq_true c31
    have I3 := decide_eq_true c31
    try have I4 : (9223372036854775807 < (strOfNums B4).size + 1) = False := eq_false (Nat.not_lt.2 c31)
    (try (have c31s := c31; simp only [ByteArray.size_append, ByteArray.size_extract] at c31s; have c31s0 := eq_true c31s; have c31s1 := decide_eq_true c31s; have c31s2 := eq_false (Nat.not_lt.2 c31s)))
    simp only [Option.some.injEq, Prod.mk.injEq] at H
    obtain ⟨rfl, rfl, rfl, rfl, rfl⟩ := H
    go_wp2_with (first | (go_at_call 52; (with_reducible refine (bf.calls g s0_0 A6 A7 40 C1 C6 C7 w0 _ ?side1 ?side2 F5.out).mono ?_); (case side1 => exact eO); (case side2 => exact gq); rintro e I5 ⟨rfl, hi, hb, hk⟩; replace A1 := a_ (Kd.ae (Kd.dx (ak.apart (show ak w0 _ g s0_0 A6 A7 from eO) (ra_ A1.out) (by decide)) hk (fun _ h => h.2)) (fun _ h => h.1)); replace HK := a_ (az.trans fB hk (.inl rfl)); replace HB := a_ (hb); replace HI0 := a_ (hi); (try clear hb); (try clear hk); (try clear hi); have hcv33 := iB (P := Tryz.prog) Tryz.underlying32 Tryz.underlying5 Tryz.underlying9 (Kd.fF A1.out); have hcv33q := fun n_ : Nat => iB (P := Tryz.prog) Tryz.underlying32 Tryz.underlying5 Tryz.underlying9 (Kd.fF (Kd.aA A1.out n_))))
    repeat (go_quiet (first | (go_at_call 52; (with_reducible refine (bf.calls g s0_0 A6 A7 40 C1 C6 C7 w0 _ ?side1 ?side2 F5.out).mono ?_); (case side1 => exact eO); (case side2 => exact gq); rintro e I5 ⟨rfl, hi, hb, hk⟩; replace A1 := a_ (Kd.ae (Kd.dx (ak.apart (show ak w0 _ g s0_0 A6 A7 from eO) (ra_ A1.out) (by decide)) hk (fun _ h => h.2)) (fun _ h => h.1)); replace HK := a_ (az.trans fB hk (.inl rfl)); replace HB := a_ (hb); replace HI0 := a_ (hi); (try clear hb); (try clear hk); (try clear hi); have hcv33 := iB (P := Tryz.prog) Tryz.underlying32 Tryz.underlying5 Tryz.underlying9 (Kd.fF A1.out); have hcv33q := fun n_ : Nat => iB (P := Tryz.prog) Tryz.underlying32 Tryz.underlying5 Tryz.underlying9 (Kd.fF (Kd.aA A1.out n_)))); try go_wp2_with (first | (go_at_call 52; (with_reducible refine (bf.calls g s0_0 A6 A7 40 C1 C6 C7 w0 _ ?side1 ?side2 F5.out).mono ?_); (case side1 => exact eO); (case side2 => exact gq); rintro e I5 ⟨rfl, hi, hb, hk⟩; replace A1 := a_ (Kd.ae (Kd.dx (ak.apart (show ak w0 _ g s0_0 A6 A7 from eO) (ra_ A1.out) (by decide)) hk (fun _ h => h.2)) (fun _ h => h.1)); replace HK := a_ (az.trans fB hk (.inl rfl)); replace HB := a_ (hb); replace HI0 := a_ (hi); (try clear hb); (try clear hb2); (try clear hk); (try clear hi); have hcv33 := iB (P := Tryz.prog) Tryz.underlying32 Tryz.underlying5 Tryz.underlying9 (Kd.fF A1.out); have hcv33q := fun n_ : Nat => iB (P := Tryz.prog) Tryz.underlying32 Tryz.underlying5 Tryz.underlying9 (Kd.fF (Kd.aA A1.out n_)))))
    go_ret3
    exact ⟨gy, eO, gq, fB⟩
   rw [if_neg c30] at H
   have G8 : (C1 == 0) = false := beq_eq_false_iff_ne.mpr c30
   have G9 : (C1 != 0) = true := bne_iff_ne.mpr c30
   by_cases c34 : C1 = 1
   ·rw [if_pos c34] at H
    have H0 : (C1 == 1) = true := beq_iff_eq.mpr c34
    have H1 : (C1 != 1) = false := bne_eq_false_iff_eq.mpr c34
    clear c34
    simp only [Option.some.injEq, Prod.mk.injEq] at H
    obtain ⟨rfl, rfl, rfl, rfl, rfl⟩ := H
    go_wp2_with (first | (go_at_call 52; (with_reducible refine (bf.calls g s0_0 A6 A7 40 C1 C6 C7 w0 _ ?side1 ?side2 F5.out).mono ?_); (case side1 => exact eO); (case side2 => exact gq); rintro e I6 ⟨rfl, hi, hb, hk⟩; replace A1 := a_ (Kd.ae (Kd.dx (ak.apart (show ak w0 _ g s0_0 A6 A7 from eO) (ra_ A1.out) (by decide)) hk (fun _ h => h.2)) (fun _ h => h.1)); replace HK := a_ (az.trans fB hk (.inl rfl)); replace HB := a_ (hb); replace HI0 := a_ (hi); (try clear hb); (try clear hk); (try clear hi)))
    repeat (go_quiet (first | (go_at_call 52; (with_reducible refine (bf.calls g s0_0 A6 A7 40 C1 C6 C7 w0 _ ?side1 ?side2 F5.out).mono ?_); (case side1 => exact eO); (case side2 => exact gq); rintro e I6 ⟨rfl, hi, hb, hk⟩; replace A1 := a_ (Kd.ae (Kd.dx (ak.apart (show ak w0 _ g s0_0 A6 A7 from eO) (ra_ A1.out) (by decide)) hk (fun _ h => h.2)) (fun _ h => h.1)); replace HK := a_ (az.trans fB hk (.inl rfl)); replace HB := a_ (hb); replace HI0 := a_ (hi); (try clear hb); (try clear hk); (try clear hi))); try go_wp2_with (first | (go_at_call 52; (with_reducible refine (bf.calls g s0_0 A6 A7 40 C1 C6 C7 w0 _ ?side1 ?side2 F5.out).mono ?_); (case side1 => exact eO); (case side2 => exact gq); rintro e I6 ⟨rfl, hi, hb, hk⟩; replace A1 := a_ (Kd.ae (Kd.dx (ak.apart (show ak w0 _ g s0_0 A6 A7 from eO) (ra_ A1.out) (by decide)) hk (fun _ h => h.2)) (fun _ h => h.1)); replace HK := a_ (az.trans fB hk (.inl rfl)); replace HB := a_ (hb); replace HI0 := a_ (hi); (try clear hb); (try clear hb2); (try clear hk); (try clear hi))))
    go_ret3
    exact ⟨gy, eO, gq, fB⟩
   rw [if_neg c34] at H
   have H0 : (C1 == 1) = false := beq_eq_false_iff_ne.mpr c34
   have H1 : (C1 != 1) = true := bne_iff_ne.mpr c34
   simp only [Option.some.injEq, Prod.mk.injEq] at H
   obtain ⟨rfl, rfl, rfl, rfl, rfl⟩ := H
   go_wp2_with (first | (go_at_call 52; (with_reducible refine (bf.calls g s0_0 A6 A7 40 C1 C6 C7 w0 _ ?side1 ?side2 F5.out).mono ?_); (case side1 => exact eO); (case side2 => exact gq); rintro e I7 ⟨rfl, hi, hb, hk⟩; replace A1 := a_ (Kd.ae (Kd.dx (ak.apart (show ak w0 _ g s0_0 A6 A7 from eO) (ra_ A1.out) (by decide)) hk (fun _ h => h.2)) (fun _ h => h.1)); replace HK := a_ (az.trans fB hk (.inl rfl)); replace HB := a_ (hb); replace HI0 := a_ (hi); (try clear hb); (try clear hk); (try clear hi); have hcv37 := iB (P := Tryz.prog) Tryz.underlying32 Tryz.underlying5 Tryz.underlying9 (Kd.fF A1.out); have hcv37q := fun n_ : Nat => iB (P := Tryz.prog) Tryz.underlying32 Tryz.underlying5 Tryz.underlying9 (Kd.fF (Kd.aA A1.out n_))))
   repeat (go_quiet (first | (go_at_call 52; (with_reducible refine (bf.calls g s0_0 A6 A7 40 C1 C6 C7 w0 _ ?side1 ?side2 F5.out).mono ?_); (case side1 => exact eO); (case side2 => exact gq); rintro e I7 ⟨rfl, hi, hb, hk⟩; replace A1 := a_ (Kd.ae (Kd.dx (ak.apart (show ak w0 _ g s0_0 A6 A7 from eO) (ra_ A1.out) (by decide)) hk (fun _ h => h.2)) (fun _ h => h.1)); replace HK := a_ (az.trans fB hk (.inl rfl)); replace HB := a_ (hb); replace HI0 := a_ (hi); (try clear hb); (try clear hk); (try clear hi); have hcv37 := iB (P := Tryz.prog) Tryz.underlying32 Tryz.underlying5 Tryz.underlying9 (Kd.fF A1.out); have hcv37q := fun n_ : Nat => iB (P := Tryz.prog) Tryz.underlying32 Tryz.underlying5 Tryz.underlying9 (Kd.fF (Kd.aA A1.out n_)))); try go_wp2_with (first | (go_at_call 52; (with_reducible refine (bf.calls g s0_0 A6 A7 40 C1 C6 C7 w0 _ ?side1 ?side2 F5.out).mono ?_); (case side1 => exact eO); (case side2 => exact gq); rintro e I7 ⟨rfl, hi, hb, hk⟩; replace A1 := a_ (Kd.ae (Kd.dx (ak.apart (show ak w0 _ g s0_0 A6 A7 from eO) (ra_ A1.out) (by decide)) hk (fun _ h => h.2)) (fun _ h => h.1)); replace HK := a_ (az.trans fB hk (.inl rfl)); replace HB := a_ (hb); replace HI0 := a_ (hi); (try clear hb); (try clear hb2); (try clear hk); (try clear hi); have hcv37 := iB (P := Tryz.prog) Tryz.underlying32 Tryz.underlying5 Tryz.underlying9 (Kd.fF A1.out); have hcv37q := fun n_ : Nat => iB (P := Tryz.prog) Tryz.underlying32 Tryz.underlying5 Tryz.underlying9 (Kd.fF (Kd.aA A1.out n_)))))
   go_ret3
   exact ⟨gy, eO, gq, fB⟩
def bP.l0 : Nat → List Int → Int → List Int → Int → Int → Option (List Int × Int × Int)
 | 0, _, _, _, _, _ => none
 | k + 1, x0, x4, x258000, x258001, x258002 => if x4 < (x0.length : Int) then (if x4 < 64 then (if 0 ≤ x4 then (bP.l0 k x0 (wrap64 (x4 + 1)) x258000 x258001 (Int.tmod (wrap64 ((wrap64 (x258002 * 71)) + (wrap64 (rd x0 x4)))) 2147483647)) else (none)) else (some (x258000, x258001, x258002))) else (some (x258000, x258001, x258002))
def bP.f (k : Nat) (l0 : List Int) : Option (List Int × Int × Int) := bP.l0 k l0 0 l0 0 88007
theorem bP.dC : ∀ k, (∀ y0 y1 y2 y3 y4, LeO (bP.l0 k y0 y1 y2 y3 y4) (bP.l0 (k + 1) y0 y1 y2 y3 y4))
 | 0 => fun _ _ _ _ _ r h => by simp [bP.l0] at h
 | k + 1 => by
  have ih0 := bP.dC k
  ·intro y0 y1 y2 y3 y4
   unfold bP.l0
   repeat' first | (with_reducible first | exact ih0 .. | exact LeO.refl .. | exact LeO.none .. | refine LeO.ite ?_ ?_ | refine LeO.bind ?_ (fun _ => ?_))
theorem bP.mono : ∀ a0 k, LeO (bP.f k a0) (bP.f (k + 1) a0) := by
 intro a0 k
 have ih0 := bP.dC k
 unfold bP.f
 repeat' first | (with_reducible first | exact ih0 .. | exact LeO.refl .. | exact LeO.none .. | refine LeO.ite ?_ ?_ | refine LeO.bind ?_ (fun _ => ?_))
def bP.T5 : Bool × List (List Nat × List Nat) := (true, [([], []), ([], []), ([1], [1]), ([2], [2]), ([3], [3]), ([4], [4]), ([], []), ([], []), ([6, 7], [6, 7]), ([8], [8]), ([9], [9]), ([5, 10], [5, 10]), ([11], [11]), ([0, 0, 1, 2, 3, 4, 5, 6, 7, 8, 9, 10, 11, 12], [0]), ([13, 0, 1, 2, 3, 4, 5, 6, 7, 8, 9, 10, 11, 12], [13]), ([14, 12, 0, 1, 2, 3, 4, 5, 6, 7, 8, 9, 10, 11, 12], [12, 14])])
def bP.B5 : List Nat := [0, 0, 2, 6, 14, 30, 0, 0, 192, 448, 960, 2046, 4094, 8191, 16383, 32767]
theorem bP.vP : ig .any (opsOf Tryz.f42 5) = bP.T5 := by kernel_rfl
theorem bP.qU : gm bP.T5.2 bP.B5 = true := by kernel_rfl
theorem bP.calls (k : Nat) (A0 : Option Addr) (c0 : Nat) (l0 : List Int) (r1 : List Int) (r2 : Int) (r3 : Int) (w0 w : World) (hB : Below w0.heap.size w0 w) (hr0 : Kd.C (Kd.int .u8) w0 A0 l0.length l0) (hc0 : l0.length ≤ c0) (h : bP.f k l0 = some (r1, r2, r3)) :
  Calls Tryz.prog 42 #[.slice A0 l0.length c0] w fun e w' => ∃ g_ : Nat, e = .returned (.pointer (some ⟨g_, 0, none⟩)) ∧ ak w0 w' g_ r1 r2 r3 ∧ Below w0.heap.size w0 w' ∧ Below w.heap.size w w' := by
 have hu94 := Tryz.underlying94
 have HR0 := a_ hr0
 have B7 := a_ hc0
 clear hr0 hc0
 have HBW := a_ (Below.refl w.heap.size w)
 have HW0 := af.mk hB.size
 have HB := a_ hB
 clear hB
 have H : (bP.l0 k l0 0 l0 0 88007) = some (r1, r2, r3) := h
 clear h
 have H' := a_ H
 clear H
 go_enter Tryz.func42, Tryz.ntmps42
 go_wp2_with (first | ((with_reducible refine bn (N := 7) rfl ?_); refine bG ?hg (N := 7) ?hd (cs := #[.slice A0 l0.length c0, .int .i64 0, .int .i64 88007]) (t := 94) ?hr ?_; (case hd => rfl); (case hg => rfl); (case hr => first | (go_simp; done) | (go_simp; rfl)); intro A2 hg w2 hbox hb; replace HB := cK bX hb; have BK257 := a_ (hbox); have GW257 := a_ ((by rw [hg]; exact (ai (by repeat (first | (with_reducible first | exact HBW.out | apply aN | apply aD | apply aM) | exact HBW.out))) : w.heap.size ≤ A2)); have GE257 := a_ ((Nat.le_trans HW0.out (by rw [hg]; exact (ai (by repeat (first | (with_reducible first | exact HBW.out | apply aN | apply aD | apply aM) | exact HBW.out))) : w.heap.size ≤ A2) : w0.heap.size ≤ A2)); replace HBW := a_ (jg HBW.out hb); clear hb hbox hg))
 go_loopg [4] k (fun kq v4 w' => ∃ (A3 : Int) (A1 : Int), v4 = .int .i64 A3 ∧ af (bP.l0 kq l0 A3 l0 0 A1 = some (r1, r2, r3)) ∧ af (kq ≤ k) ∧ af (w'.heap[A2]? = some (.cells #[(.slice A0 l0.length c0), .int .i64 0, .int .i64 A1] 94 (0, 0))) ∧ af (Below w0.heap.size w0 w') ∧ af (Below w.heap.size w w'))
 case atStart => exact ⟨(0), (88007), cz, H', ⟨Nat.le_refl _⟩, ⟨Bq⟩, ⟨zA⟩, ⟨zG⟩⟩
 case round =>
  clear H'
  obtain ⟨A3, A1, rfl, HA, HK1, BK257, HB, HBW⟩ := hrel
  cases gk with
  | zero => exact absurd HA.out (by simp [bP.l0])
  | succ k1 =>
   have H := HA.out
   clear HA
   simp only [bP.l0] at H
   by_cases c3 : A3 < (l0.length : Int)
   ·rw [if_pos c3] at H
    have A9 := decide_eq_true c3
    clear c3
    by_cases c4 : A3 < 64
    ·rw [if_pos c4] at H
     have B0 := decide_eq_true c4
     clear c4
     replace H := ig_ H; obtain ⟨c5, H⟩ := H
     have B4 := decide_eq_true c5
     clear c5
     have H' := a_ H
     clear H
     try go_wp2
     have n0_ := a_ (bv BK257.out)
     have n1_ := a_ (aM HB.out)
     have n9_ := a_ (aM HBW.out)
     clear HBW
     have HBW := n9_
     clear n9_; clear BK257; clear HB
     have BK257 := n0_
     have HB := n1_
     clear n0_ n1_
     have A7 : 0 ≤ (A3 : Int) := of_decide_eq_true aX
     have A8 : A3 < (l0.length : Int) := of_decide_eq_true aX
     obtain ⟨A6, B3, A4⟩ := Kd.eF HR0.out A3 A7 A8
     have A5 := A4
     cases B3
     replace A4 := iE HB.out A4
     replace A7 := eq_true A7
     replace A8 := eq_true A8
     refine gW (n := 16) (S := fun w' => w'.cell? ⟨A2, 0, none⟩ = some (.slice (some A6) l0.length c0) ∧ w'.cell? ⟨A2, 1, none⟩ = some (.int .i64 0) ∧ w'.cell? ⟨A2, 2, none⟩ = some (.int .i64 A1) ∧ w'.cell? (A6.add (A3).toNat) = some (.int .u8 (rd l0 A3))) (ds := [15]) #[false, false, false, false, false, false, false, false, false, false, false, false, false, false, false, false] (by kernel_rfl) rfl rfl ⟨(aa BK257.out 0).trans rfl, (aa BK257.out 1).trans rfl, (aa BK257.out 2).trans rfl, ((HB.out.cell (World.block_lt_of_cell? _ _ A5)).trans A5)⟩ (fun hHeld => ?_); refine fq bP.vP bP.qU (fun HT_ HW_ => ?_)
     generalize wr.drew = w6 at BK257 HB HBW A4 hHeld ⊢
     refine pv_ 0 (some 18) ?_
     refine pv_ 1 (some 19) ?_
     refine pv_ 2 (some 20) ?_
     refine pv_ 3 (some 21) ?_
     refine pv_ 6 (some 24) ?_
     refine pv_ 7 (some 25) ?_
     refine pv_ 8 (some 26) ?_
     refine oq 4 (some 22) hHeld ?_
     refine pv_ 5 (some 23) ?_
     refine oq 9 (some 27) hHeld ?_
     refine pv_ 10 (some 28) ?_
     refine pv_ 11 (some 29) ?_
     refine pv_ 12 (some 30) ?_
     refine pv_ 13 (some 31) ?_
     refine pv_ 14 (some 32) ?_
     refine la_ (i := 15) (N := none) (fun K hK => ?_)
     have C0 : w6.cell? ⟨A2, 2, none⟩ = some (.int .i64 A1) := (aa BK257.out 2).trans rfl
     have hfs7 := bi BK257.out 2
     refine lD (w1 := ?_) (by rfl) rfl ?_ ?_
     rotate_left
     ·go_simp
      rfl
     refine hK.out _ _ ?_
     clear hK K
     refine jl (iw HT_.out (by kernel_rfl)) ?_
     try go_wp2
     go_roundg k1
     case measure => have := HK1.out; omega
     case rel => exact ⟨(wrap64 (A3 + 1)), (Int.tmod (wrap64 ((wrap64 (A1 * 71)) + (wrap64 (rd l0 A3)))) 2147483647), cz, H', ⟨kW⟩, ⟨by (with_reducible repeat (first | refine bO ?_ _ | refine bv ?_ | refine bN ?_ _)); refine gz (cs := #[.slice (some A6) l0.length c0, .int .i64 0, .int .i64 A1]) ?_ 2 _ rfl; (with_reducible repeat (first | refine bO ?_ _ | refine bv ?_ | refine bN ?_ _)); exact BK257.out⟩, ⟨zA⟩, ⟨zG⟩⟩
    rw [if_neg c4] at H
    have B0 := decide_eq_false c4
    clear c4
    simp only [Option.some.injEq, Prod.mk.injEq] at H
    obtain ⟨rfl, rfl, rfl⟩ := H
    go_wp2
    go_ret
    exact ⟨_, rfl, (show ak w0 _ A2 l0 0 A1 from ⟨_, _, Bq, GE257.out, HR0.out⟩), zA, zG⟩
   rw [if_neg c3] at H
   have A9 := decide_eq_false c3
   clear c3
   simp only [Option.some.injEq, Prod.mk.injEq] at H
   obtain ⟨rfl, rfl, rfl⟩ := H
   go_wp2
   go_ret
   exact ⟨_, rfl, (show ak w0 _ A2 l0 0 A1 from ⟨_, _, Bq, GE257.out, HR0.out⟩), zA, zG⟩
def dO.f (k : Nat) (l0 : List Int) : Option (Int × Int × ByteArray) := (bP.f k l0).bind fun bt259 => ((bS.f k bt259.1 bt259.2.1 bt259.2.2).bind fun bt263 => (some (bt263.1, bt263.2.1, bt263.2.2.1)))
theorem dO.mono : ∀ a0 k, LeO (dO.f k a0) (dO.f (k + 1) a0) := by
 intro a0 k
 unfold dO.f
 repeat' first | (with_reducible first | exact bP.mono .. | exact bS.mono .. | exact LeO.refl .. | exact LeO.none .. | refine LeO.ite ?_ ?_ | refine LeO.bind ?_ (fun _ => ?_))
theorem dO.calls (k : Nat) (A0 : Option Addr) (c0 : Nat) (l0 : List Int) (r1 : Int) (r2 : Int) (r3 : ByteArray) (w : World) (hr0 : Kd.C (Kd.int .u8) w A0 l0.length l0) (hc0 : l0.length ≤ c0) (h : dO.f k l0 = some (r1, r2, r3)) :
  Calls Tryz.prog 13 #[.slice A0 l0.length c0] w fun e w' => e = .returned (.tuple #[.int .i64 r1, .int .i64 r2, .string r3]) ∧ Below w.heap.size w w' := by
 have HR0 := a_ hr0
 have B7 := a_ hc0
 clear hr0 hc0
 have HB := a_ (Below.refl w.heap.size w)
 have H : ((bP.f k l0).bind fun A1 => ((bS.f k A1.1 A1.2.1 A1.2.2).bind fun A4 => (some (A4.1, A4.2.1, A4.2.2.1)))) = some (r1, r2, r3) := h
 clear h
 replace H := bo_ H; obtain ⟨⟨A5, A6, A7⟩, A2, H⟩ := H; (try dsimp only at H)
 replace H := bo_ H; obtain ⟨⟨A8, A9, B0, B3, B4⟩, A3, H⟩ := H; (try dsimp only at H)
 simp only [Option.some.injEq, Prod.mk.injEq] at H
 obtain ⟨rfl, rfl, rfl⟩ := H
 go_enter Tryz.func13, Tryz.ntmps13
 go_wp2_with (first | ((with_reducible refine av (f := 42) rfl ?_); refine bJ (some 6) rfl rfl Tryz.func42 (by kernel_rfl) rfl #[.slice A0 l0.length c0] rfl dN ?_; (with_reducible refine (bP.calls k _ _ l0 A5 A6 A7 w _ ?side1 ?side2 ?side3 A2.out).mono ?_); (case side1 => exact bX); (case side2 => exact HR0.out); (case side3 => exact B7.out); rintro e w4 ⟨g262, rfl, hi, hb, hb2⟩; refine ⟨_, rfl, ?_⟩; replace HB := a_ (hb); have HI262 := a_ (hi); (try clear hb); (try clear hb2); (try clear hi)) | ((with_reducible refine av (f := 41) rfl ?_); refine bJ (some 7) rfl rfl Tryz.func41 (by kernel_rfl) rfl #[.pointer (some ⟨g262, 0, none⟩)] rfl dN ?_; (with_reducible refine (bS.calls k g262 A5 A6 A7 A8 A9 B0 B3 B4 w _ ?side1 ?side2 A3.out).mono ?_); (case side1 => exact (by (repeat (first | (with_reducible first | exact HI262.out | apply ak.alloc | apply ak.drewN | apply ak.drew | apply ak.ou | apply ak.oC) | exact HI262.out)); first | done | fail)); (case side2 => exact (by (repeat (first | (with_reducible first | exact HB.out | apply aN | apply aD | apply aM | refine aG ?_ (ak.ge HI262.out)) | exact HB.out)); first | done | fail)); rintro e w5 ⟨rfl, hi, hb, hk⟩; refine ⟨_, rfl, ?_⟩; replace HB := a_ (hb); replace HI262 := a_ (hi); (try clear hb); (try clear hk); (try clear hi)))
 go_ret3
 exact ⟨gy, by repeat (first | (with_reducible first | exact HB.out | apply aN | apply aD | apply aM | refine aG ?_ (ak.ge HI262.out)) | exact HB.out)⟩
def eP.f (k : Nat) (a0 : Int) (a1 : Int) (a2 : ByteArray) : Option (Int) := (dn.f a0 a1).bind fun t268 => (if t268 = true then ((dK.f k a0 a1 a2).bind fun t269 => (if t269 = true then (some 0) else (some 2))) else (some 1))
theorem eP.mono : ∀ a0 a1 a2 k, LeO (eP.f k a0 a1 a2) (eP.f (k + 1) a0 a1 a2) := by
 intro a0 a1 a2 k
 unfold eP.f
 repeat' first | (with_reducible first | exact dK.mono .. | exact LeO.refl .. | exact LeO.none .. | refine LeO.ite ?_ ?_ | refine LeO.bind ?_ (fun _ => ?_))
theorem eP.calls (k : Nat) (a0 : Int) (a1 : Int) (a2 : ByteArray) (r : Int) (w : World) (h : eP.f k a0 a1 a2 = some r) :
  Calls Tryz.prog 43 #[.int .i64 a0, .int .i64 a1, .string a2] w fun e w' => e = .returned (.int .i64 r) ∧ Below w.heap.size w w' := by
 have HB := a_ (Below.refl w.heap.size w)
 have H : ((dn.f a0 a1).bind fun A2 => (if A2 = true then ((dK.f k a0 a1 a2).bind fun A1 => (if A1 = true then (some 0) else (some 2))) else (some 1))) = some r := h
 clear h
 replace H := bo_ H; obtain ⟨A2, A4, H⟩ := H; (try dsimp only at H)
 by_cases c5 : A2 = true
 ·subst c5
  have H1 : ((dK.f k a0 a1 a2).bind fun A1 => (if A1 = true then (some 0) else (some 2))) = some r := by rw [if_pos rfl] at H; exact H
  clear H
  have H := H1
  clear H1
  replace H := bo_ H; obtain ⟨A1, A6, H⟩ := H; (try dsimp only at H)
  by_cases c7 : A1 = true
  ·subst c7
   have H1 : (some 0) = some r := by rw [if_pos rfl] at H; exact H
   clear H
   have H := H1
   clear H1
   obtain rfl := Option.some.inj H
   go_enter Tryz.func43, Tryz.ntmps43
   go_wp2_with (first | ((with_reducible refine av (f := 60) rfl ?_); refine bJ (some 10) rfl rfl Tryz.func60 (by kernel_rfl) rfl #[.int .i64 a0, .int .i64 a1] rfl dN ?_; (with_reducible refine (dn.calls a0 a1 true _ A4.out).mono ?_); rintro e w' ⟨rfl, ⟨nd, rfl⟩⟩; refine ⟨_, rfl, ?_⟩) | ((with_reducible refine av (f := 77) rfl ?_); refine bJ (some 16) rfl rfl Tryz.func77 (by kernel_rfl) rfl #[.int .i64 a0, .int .i64 a1, .string a2] rfl dN ?_; (with_reducible refine (dK.calls k a0 a1 a2 true _ A6.out).mono ?_); rintro e w8 ⟨rfl, hb⟩; refine ⟨_, rfl, ?_⟩; replace HB := cK bX hb; (try clear hb)))
   go_ret
   exact ⟨gy, bX⟩
  ·replace c7 := Bool.eq_false_iff.mpr c7
   subst c7
   have H1 : (some 2) = some r := by rw [if_neg (show ¬ (false = true) by decide)] at H; exact H
   clear H
   have H := H1
   clear H1
   obtain rfl := Option.some.inj H
   go_enter Tryz.func43, Tryz.ntmps43
   go_wp2_with (first | ((with_reducible refine av (f := 60) rfl ?_); refine bJ (some 10) rfl rfl Tryz.func60 (by kernel_rfl) rfl #[.int .i64 a0, .int .i64 a1] rfl dN ?_; (with_reducible refine (dn.calls a0 a1 true _ A4.out).mono ?_); rintro e w' ⟨rfl, ⟨nd, rfl⟩⟩; refine ⟨_, rfl, ?_⟩) | ((with_reducible refine av (f := 77) rfl ?_); refine bJ (some 16) rfl rfl Tryz.func77 (by kernel_rfl) rfl #[.int .i64 a0, .int .i64 a1, .string a2] rfl dN ?_; (with_reducible refine (dK.calls k a0 a1 a2 false _ A6.out).mono ?_); rintro e w9 ⟨rfl, hb⟩; refine ⟨_, rfl, ?_⟩; replace HB := cK bX hb; (try clear hb)))
   go_ret
   exact ⟨gy, bX⟩
 ·replace c5 := Bool.eq_false_iff.mpr c5
  subst c5
  have H1 : (some 1) = some r := by rw [if_neg (show ¬ (false = true) by decide)] at H; exact H
  clear H
  have H := H1
  clear H1
  obtain rfl := Option.some.inj H
  go_enter Tryz.func43, Tryz.ntmps43
  go_wp2_with (first | ((with_reducible refine av (f := 60) rfl ?_); refine bJ (some 10) rfl rfl Tryz.func60 (by kernel_rfl) rfl #[.int .i64 a0, .int .i64 a1] rfl dN ?_; (with_reducible refine (dn.calls a0 a1 false _ A4.out).mono ?_); rintro e w' ⟨rfl, ⟨nd, rfl⟩⟩; refine ⟨_, rfl, ?_⟩))
  go_ret
  exact ⟨gy, bX⟩
end Go.Proofs.YtkpidjmhdagkfaaGreatDoor.QFnImposed
