-- Written by own_print.py of this session's repo over the kit's print (its output, turned at some places).
import Derived.Test.YtijbccmcfagnfaaQFnExactFindSchemex0
namespace Go.Proofs.Ytijbccmcfagnfaa.QFnExactFindScheme
open Go.RowKit Go.Proofs.YtijbccmcfagnfaaW.PrintWords Go.Proofs.YtijbccmcfagnfaaW.PrintLast Go.Proofs.YtijbccmcfagnfaaW.PrintMore
attribute [local go_sem] max2_int min2_int max_two min_two max_three min_three max_four min_four   -- for this text's walks alone
set_option linter.unusedVariables false
set_option linter.unusedSimpArgs false

/-! ### spec_l04Turn -/
def spec_l04Turn.togg (a : Bool) (x : S46) : S46 := if a = true then ⟨x.f0, x.f1, !x.f2, x.f3⟩ else ⟨x.f0, x.f1, x.f2, !x.f3⟩
def spec_l04Turn.f (l0 : List S46) (a1 : Bool) : Option (List S46) := if l0.length ≤ 1000000 then some (l0.reverse.map (spec_l04Turn.togg a1)) else none
theorem spec_l04Turn.togg_snoc (l : List S46) (a : Bool) (j m : Nat) (h : m + 1 + j = l.length) : (l.reverse.take (j + 1)).map (spec_l04Turn.togg a) = (l.reverse.take j).map (spec_l04Turn.togg a) ++ [spec_l04Turn.togg a (l.getD m z46)] := by
  have hj : j < l.reverse.length := by rw [List.length_reverse]; omega
  rw [List.take_succ_eq_append_getElem hj, List.map_append, List.map_cons, List.map_nil, List.getElem_reverse]
  congr 2
  rw [List.getD_eq_getElem?_getD, List.getElem?_eq_getElem (by omega), Option.getD_some]
  congr 2
  omega
theorem spec_l04Turn.togg_cells (a : Bool) (w : World) (base : Nat) (ok : Nat → Prop) (x : S46) : k46.M w base ok (spec_l04Turn.togg a x) [.int .i64 x.f0, .int .i64 x.f1, .bool (if a = true then !x.f2 else x.f2), .bool (if a = true then x.f3 else !x.f3)] := by
  cases a
  · exact k46_mkM w base ok ⟨x.f0, x.f1, x.f2, !x.f3⟩
  · exact k46_mkM w base ok ⟨x.f0, x.f1, !x.f2, x.f3⟩
set_option maxHeartbeats 800000 in
set_option maxRecDepth 100000 in
theorem spec_l04Turn.calls (A0 : Option Addr) (c0 : Nat) (l0 : List (S46)) (a1 : Bool) (r : List (S46)) (w : World) (hr0 : Kd.C k46 w A0 l0.length l0) (hc0 : l0.length ≤ c0) (h : spec_l04Turn.f l0 a1 = some r) :
    Calls Try.prog 40 #[.slice A0 l0.length c0, .bool a1] w fun e w' => ∃ v0_ : Value, e = .returned (v0_) ∧ Kd.R k46 46 w' w.heap.size (fun _ => True) v0_ r ∧ Below w.heap.size w w' := by
  unfold spec_l04Turn.f at h
  by_cases hl : l0.length ≤ 1000000
  · rw [if_pos hl] at h
    injection h with h
    obtain ⟨n, hn⟩ : ∃ n : Nat, l0.length = n := ⟨_, rfl⟩
    rw [hn] at hl
    have HR := Aside0.mk hr0
    have HE := Aside0.mk h
    have HN := Aside0.mk hn
    have HL := Aside0.mk hl
    have e1 : wrap64 ((n : Int) - 1) = (n : Int) - 1 := by unfold wrap64; omega
    have f1 : IntKind.i64.wrap ((n : Int) - 1) = (n : Int) - 1 := (i64_w _).trans e1
    obtain ⟨i0, hi0⟩ : ∃ i0 : Int, (n : Int) - 1 = i0 := ⟨_, rfl⟩
    have HI0 := Aside0.mk hi0
    rw [hn]
    have HE1 := Aside0.mk (e1.trans hi0)
    clear e1 f1
    clear hr0 h hn hl hc0 hi0
    have HB := Aside0.mk (Below.refl w.heap.size w)
    go_enter Try.func40, Try.ntmps40
    go_wp2_with (first | ((with_reducible refine gate_dst (N := 8) rfl ?_); refine Kd.R_lit k46 _ 46 ?hg (N := 8) ?hd (xs := ([] : List (S46))) (inner := []) (ok := fun _ => True) (okp := fun _ => True) ?hr ?hp (fun _ hk => hk) trivial (Below.refl _ _) (Nat.le_refl _) (by simp) ?_; (case hd => rfl); (case hg => rfl); (case hr => first | (go_simp; done) | (go_simp; rfl)); (case hp => exact (Reps.none _ _)); intro v218 w3 ho4 hb hg_ hnew_; clear hg_ hnew_; have HO := Aside0.mk ho4; have HB1 := Aside0.mk hb; clear ho4 hb))
    go_loopg [5, 6] (n + 1) (fun kq v5 v6 w' => ∃ (i : Int) (j : Nat), v6 = .int .i64 i ∧ Aside0 (i = (n : Int) - 1 - (j : Int) ∧ j ≤ n ∧ j + kq = n + 1) ∧ Aside0 (Kd.R k46 46 w' w.heap.size (fun _ => True) v5 ((l0.reverse.take j).map (spec_l04Turn.togg a1))) ∧ Aside0 (Below w.heap.size w w'))
    case atStart => exact ⟨wrap64 ((n : Int) - 1), 0, rfl, ⟨by have := HE1.out; have := HI0.out; omega, by omega, by omega⟩, ⟨by simpa using HO.out⟩, HB1⟩
    case round =>
      clear HO HB1 HI0 HE1
      obtain ⟨i, j, rfl, HJ, HO, HB⟩ := hrel
      cases gk with
      | zero => exact absurd HJ.out (fun h => by omega)
      | succ k1 =>
        by_cases hj : j = n
        · have hi : i < 0 := by have := HJ.out; omega
          have d1 : decide (i ≥ 0) = false := decide_eq_false (by omega)
          have d2 : decide (0 ≤ i) = false := decide_eq_false (by omega)
          clear hi
          have HJN := Aside0.mk hj
          clear hj
          go_wp2
          go_ret
          refine ⟨_, rfl, ?_, HB.out⟩
          have h := HO.out
          rw [← HE.out]
          have e : l0.reverse.take j = l0.reverse := List.take_of_length_le (by rw [List.length_reverse, HN.out, HJN.out]; exact Nat.le_refl _)
          rw [e] at h
          exact h
        · obtain ⟨m, rfl⟩ : ∃ m : Nat, i = (m : Int) := ⟨i.toNat, by have := HJ.out; omega⟩
          have HM := Aside0.mk (show m + 1 + j = n by have := HJ.out; omega)
          have hml : m < l0.length := by have := HM.out; have := HN.out; omega
          obtain ⟨ad, eA, hx0, hx1, hx2, hx3⟩ := at_T46 HR.out (m : Int) (by omega) (by omega)
          cases eA
          have hx : rd_T46 l0 (m : Int) = l0.getD m z46 := rfl
          rw [hx] at hx0 hx1 hx2 hx3
          clear hx
          have HT := Aside0.mk (spec_l04Turn.togg_snoc l0 a1 j m (by have := HM.out; have := HN.out; omega))
          have HC := Aside0.mk (spec_l04Turn.togg_cells a1)
          generalize l0.getD m z46 = x at hx0 hx1 hx2 hx3 HT
          replace hx0 := (HB.out.cell (World.block_lt_of_cell? _ _ hx0)).trans hx0
          replace hx1 := (HB.out.cell (World.block_lt_of_cell? _ _ hx1)).trans hx1
          replace hx2 := (HB.out.cell (World.block_lt_of_cell? _ _ hx2)).trans hx2
          replace hx3 := (HB.out.cell (World.block_lt_of_cell? _ _ hx3)).trans hx3
          rw [show ((m : Int)).toNat = m from Int.toNat_natCast m] at hx0 hx1 hx2 hx3
          have hmn : m < n := by have := HM.out; omega
          have d1 : decide ((m : Int) ≥ 0) = true := decide_eq_true (by omega)
          have d2 : decide (0 ≤ (m : Int)) = true := decide_eq_true (by omega)
          have g1 := eq_true hmn
          have g2 := eq_true (show (m : Int) < (n : Int) by omega)
          have e1 : wrap64 ((m : Int) - 1) = (m : Int) - 1 := by have := HL.out; unfold wrap64; omega
          obtain ⟨i1, hi1⟩ : ∃ i1 : Int, (m : Int) - 1 = i1 := ⟨_, rfl⟩
          have HI1 := Aside0.mk hi1
          have HL2 := Aside0.mk (show ((l0.reverse.take j).map (spec_l04Turn.togg a1)).length = j by rw [List.length_map, List.length_take, List.length_reverse]; have := HM.out; have := HN.out; omega)
          replace e1 := e1.trans hi1
          have f1 : IntKind.i64.wrap ((m : Int) - 1) = i1 := (i64_w _).trans e1
          have HJ2 := Aside0.mk (show j + (k1 + 1) = n + 1 from HJ.out.2.2)
          clear hi1 hmn hj hml HJ
          obtain ⟨gb, hgb⟩ : ∃ gb : Nat, wr.heap.size = gb := ⟨_, rfl⟩
          cases a1
          all_goals
            go_upto_if 20 with ((with_reducible refine gate_dst (N := 7) rfl ?_); refine box_event ?hg (N := 7) ?hd (cs := #[.int .i64 0, .int .i64 0, .bool false, .bool false]) (t := 46) ?hr ?_; (case hd => rfl); (case hg => rfl); (case hr => first | (go_simp; done) | (go_simp; rfl)); intro gb130 hg w10 hbox hb; have BK := Aside0.mk hbox; have HBX := Aside0.mk hb; have HG := Aside0.mk hg; have hcz0 : w10.cell? ⟨gb130, 0, none⟩ = some (.int .i64 0) := (blk_cell hbox 0).trans rfl; have hcz1 : w10.cell? ⟨gb130, 1, none⟩ = some (.int .i64 0) := (blk_cell hbox 1).trans rfl; have hcz2 : w10.cell? ⟨gb130, 2, none⟩ = some (.bool false) := (blk_cell hbox 2).trans rfl; have hcz3 : w10.cell? ⟨gb130, 3, none⟩ = some (.bool false) := (blk_cell hbox 3).trans rfl; have hfz0 := blk_frozen hbox 0; have hfz1 := blk_frozen hbox 1; have hfz2 := blk_frozen hbox 2; have hfz3 := blk_frozen hbox 3; clear hb hbox hg)
          all_goals
            have hw0 := below_size HB.out
            have hgE := HG.out
            have HGE := Aside0.mk (show w.heap.size ≤ gb130 by omega)
            clear hw0 hgE
            have hB1 := Aside0.mk (below_set (j := 3) (v := .bool x.f3) (below_set (j := 2) (v := .bool x.f2) (below_set (j := 1) (v := .int .i64 x.f1) (below_set (j := 0) (v := .int .i64 x.f0) (below_step HB.out HBX.out) HGE.out) HGE.out) HGE.out) HGE.out)
            have hO1 := Aside0.mk (Kd.R_far (p := ⟨gb130, 3, none⟩) (Kd.R_far (p := ⟨gb130, 2, none⟩) (Kd.R_far (p := ⟨gb130, 1, none⟩) (Kd.R_far (p := ⟨gb130, 0, none⟩) (Kd.R_below (Kd.R_elderB HO.out gb130 (Nat.le_of_eq HG.out.symm)) HBX.out) (fun _ hk => hk.2) (.int .i64 x.f0)) (fun _ hk => hk.2) (.int .i64 x.f1)) (fun _ hk => hk.2) (.bool x.f2)) (fun _ hk => hk.2) (.bool x.f3))
            have hK1 := Aside0.mk (blk_put (blk_put (blk_put (blk_put BK.out 0 (.int .i64 x.f0) rfl) 1 (.int .i64 x.f1) rfl) 2 (.bool x.f2) rfl) 3 (.bool x.f3) rfl)
            clear HO HB HBX HG BK hcz0 hcz1 hcz2 hcz3 hfz0 hfz1 hfz2 hfz3 hx0 hx1 hx2 hx3
            generalize (((w10.setCell ⟨gb130, 0, none⟩ (.int .i64 x.f0)).setCell ⟨gb130, 1, none⟩ (.int .i64 x.f1)).setCell ⟨gb130, 2, none⟩ (.bool x.f2)).setCell ⟨gb130, 3, none⟩ (.bool x.f3) = w11 at hB1 hO1 hK1 ⊢
            have hcz0 : w11.cell? ⟨gb130, 0, none⟩ = some (.int .i64 x.f0) := (blk_cell hK1.out 0).trans rfl
            have hcz1 : w11.cell? ⟨gb130, 1, none⟩ = some (.int .i64 x.f1) := (blk_cell hK1.out 1).trans rfl
            have hcz2 : w11.cell? ⟨gb130, 2, none⟩ = some (.bool x.f2) := (blk_cell hK1.out 2).trans rfl
            have hcz3 : w11.cell? ⟨gb130, 3, none⟩ = some (.bool x.f3) := (blk_cell hK1.out 3).trans rfl
            have hfz0 := blk_frozen hK1.out 0
            have hfz1 := blk_frozen hK1.out 1
            have hfz2 := blk_frozen hK1.out 2
            have hfz3 := blk_frozen hK1.out 3
          · go_upto_region 9 with (fail)
            have hB2 := Aside0.mk (below_set (j := 3) (v := .bool !x.f3) hB1.out HGE.out)
            have hO2 := Aside0.mk (Kd.R_far (p := ⟨gb130, 3, none⟩) (Kd.R_mono (ok' := fun k_ => k_ ≠ gb130) hO1.out (fun _ hk => hk.2)) (fun _ hk => hk) (.bool !x.f3))
            have hK2 := Aside0.mk (blk_put hK1.out 3 (.bool !x.f3) rfl)
            clear hB1 hO1 hK1 hcz0 hcz1 hcz2 hcz3 hfz0 hfz1 hfz2 hfz3
            generalize w11.setCell ⟨gb130, 3, none⟩ (.bool !x.f3) = w12 at hB2 hO2 hK2 ⊢
            have hM := Aside0.mk (fun w base ok => HC.out w base ok x)
            clear HC
            simp only [if_true, if_false, Bool.false_eq_true] at hM
            obtain ⟨y, hy⟩ : ∃ y : S46, spec_l04Turn.togg false x = y := ⟨_, rfl⟩
            obtain ⟨b, hb⟩ : ∃ b : Bool, (!x.f3) = b := ⟨_, rfl⟩
            rw [hy] at hM HT
            rw [hb] at hM hK2
            clear hy hb
            have hcz0 : w12.cell? ⟨gb130, 0, none⟩ = some (.int .i64 x.f0) := (blk_cell hK2.out 0).trans rfl
            have hcz1 : w12.cell? ⟨gb130, 1, none⟩ = some (.int .i64 x.f1) := (blk_cell hK2.out 1).trans rfl
            have hcz2 : w12.cell? ⟨gb130, 2, none⟩ = some (.bool x.f2) := (blk_cell hK2.out 2).trans rfl
            have hcz3 : w12.cell? ⟨gb130, 3, none⟩ = some (.bool b) := (blk_cell hK2.out 3).trans rfl
            go_wp2_with ((with_reducible refine gate_builtin (b := .append) (xs := #[.tmp 29, .tmp 31]) rfl ?_); at_builtin; refine Kd.R_append k46 (w0 := w) w.heap.size rfl (.tmp 29) (.tmp 31) 34 46 (.agg #[(.int .i64 0), (.int .i64 0), (.bool false), (.bool false)]) 24 rfl Try.underlying34 info46 rfl (by decide) (by omega) u5 ((l0.reverse.take j).map (spec_l04Turn.togg false)) y [.int .i64 x.f0, .int .i64 x.f1, .bool x.f2, .bool b] (fun k_ => k_ ≠ gb130) (fun _ => False) rfl (by first | (go_simp; done) | (go_simp; rfl)) ?aP (fun _ hk => hk.elim) ?aF ?aO ?aB ?aS ?aL ?_; (case aP => exact hM.out _ _ _); (case aB => first | exact hB2.out | exact below_alloc hB2.out _); (case aF => first | exact (fun k_ hk => Kd.freshB hK2.out k_ hk) | exact (fun k_ hk => Kd.freshB hK2.out k_ (Nat.le_trans (by simp) hk))); (case aO => first | exact hO2.out | exact Kd.R_alloc hO2.out _); (case aS => first | exact below_size hB2.out | exact below_size (below_alloc hB2.out _)); (case aL => have := HL2.out; have := HL.out; have := HM.out; omega); intro v13 w13 ho hb hg hat; have HO3 := Aside0.mk ho; have HB3 := Aside0.mk hb; clear ho hb hg hat)
            go_roundg k1
            case measure => omega
            case rel => exact ⟨_, j + 1, rfl, ⟨by have := HI1.out; have := HM.out; have := HJ2.out; omega, by have := HM.out; omega, by have := HJ2.out; omega⟩, ⟨by rw [HT.out]; exact Kd.R_mono HO3.out (fun _ _ => trivial)⟩, HB3⟩

          · go_upto_region 9 with (fail)
            have hB2 := Aside0.mk (below_set (j := 2) (v := .bool !x.f2) hB1.out HGE.out)
            have hO2 := Aside0.mk (Kd.R_far (p := ⟨gb130, 2, none⟩) (Kd.R_mono (ok' := fun k_ => k_ ≠ gb130) hO1.out (fun _ hk => hk.2)) (fun _ hk => hk) (.bool !x.f2))
            have hK2 := Aside0.mk (blk_put hK1.out 2 (.bool !x.f2) rfl)
            clear hB1 hO1 hK1 hcz0 hcz1 hcz2 hcz3 hfz0 hfz1 hfz2 hfz3
            generalize w11.setCell ⟨gb130, 2, none⟩ (.bool !x.f2) = w12 at hB2 hO2 hK2 ⊢
            have hM := Aside0.mk (fun w base ok => HC.out w base ok x)
            clear HC
            simp only [if_true, if_false, Bool.false_eq_true] at hM
            obtain ⟨y, hy⟩ : ∃ y : S46, spec_l04Turn.togg true x = y := ⟨_, rfl⟩
            obtain ⟨b, hb⟩ : ∃ b : Bool, (!x.f2) = b := ⟨_, rfl⟩
            rw [hy] at hM HT
            rw [hb] at hM hK2
            clear hy hb
            have hcz0 : w12.cell? ⟨gb130, 0, none⟩ = some (.int .i64 x.f0) := (blk_cell hK2.out 0).trans rfl
            have hcz1 : w12.cell? ⟨gb130, 1, none⟩ = some (.int .i64 x.f1) := (blk_cell hK2.out 1).trans rfl
            have hcz2 : w12.cell? ⟨gb130, 2, none⟩ = some (.bool b) := (blk_cell hK2.out 2).trans rfl
            have hcz3 : w12.cell? ⟨gb130, 3, none⟩ = some (.bool x.f3) := (blk_cell hK2.out 3).trans rfl
            go_wp2_with ((with_reducible refine gate_builtin (b := .append) (xs := #[.tmp 29, .tmp 31]) rfl ?_); at_builtin; refine Kd.R_append k46 (w0 := w) w.heap.size rfl (.tmp 29) (.tmp 31) 34 46 (.agg #[(.int .i64 0), (.int .i64 0), (.bool false), (.bool false)]) 24 rfl Try.underlying34 info46 rfl (by decide) (by omega) u5 ((l0.reverse.take j).map (spec_l04Turn.togg true)) y [.int .i64 x.f0, .int .i64 x.f1, .bool b, .bool x.f3] (fun k_ => k_ ≠ gb130) (fun _ => False) rfl (by first | (go_simp; done) | (go_simp; rfl)) ?aP (fun _ hk => hk.elim) ?aF ?aO ?aB ?aS ?aL ?_; (case aP => exact hM.out _ _ _); (case aB => first | exact hB2.out | exact below_alloc hB2.out _); (case aF => first | exact (fun k_ hk => Kd.freshB hK2.out k_ hk) | exact (fun k_ hk => Kd.freshB hK2.out k_ (Nat.le_trans (by simp) hk))); (case aO => first | exact hO2.out | exact Kd.R_alloc hO2.out _); (case aS => first | exact below_size hB2.out | exact below_size (below_alloc hB2.out _)); (case aL => have := HL2.out; have := HL.out; have := HM.out; omega); intro v13 w13 ho hb hg hat; have HO3 := Aside0.mk ho; have HB3 := Aside0.mk hb; clear ho hb hg hat)
            go_roundg k1
            case measure => omega
            case rel => exact ⟨_, j + 1, rfl, ⟨by have := HI1.out; have := HM.out; have := HJ2.out; omega, by have := HM.out; omega, by have := HJ2.out; omega⟩, ⟨by rw [HT.out]; exact Kd.R_mono HO3.out (fun _ _ => trivial)⟩, HB3⟩

  · rw [if_neg hl] at h; cases h

end Go.Proofs.Ytijbccmcfagnfaa.QFnExactFindScheme
