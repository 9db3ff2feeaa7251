-- Written by own_print.py of this session's repo over the kit's print (its output, turned at some places).
import Derived.Test.YtdpmpoakjhhaaaaGreatDoorQFnMirroredStripsx0
import Derived.Test.YtdpmpoakjhhaaaaGreatDoorQFnMirroredStripsx1
namespace Go.Proofs.YtdpmpoakjhhaaaaGreatDoor.QFnMirroredStrips
open Go.RowKit Go.Proofs.YtdpmpoakjhhaaaaGreatDoorW.PrintWords Go.Proofs.YtdpmpoakjhhaaaaGreatDoorW.PrintLast Go.Proofs.YtdpmpoakjhhaaaaGreatDoorW.PrintMore
attribute [local go_sem] max2_int min2_int max_two min_two max_three min_three max_four min_four   -- for this text's walks alone
set_option linter.unusedVariables false
set_option linter.unusedSimpArgs false

/-! ### atomic_b32: function 100 -/
def atomic_b32.f (a0 : Bool) : Option (Int) := if a0 = true then (some 1) else (some 0)
set_option maxHeartbeats 8000000 in
set_option maxRecDepth 100000 in
theorem atomic_b32.calls (a0 : Bool) (r : Int) (w : World) (h : atomic_b32.f a0 = some r) :
    Calls Tryz.prog 100 #[.bool a0] w fun e w' => e = .returned (.int .u32 r) ∧ Drawn0 w w' := by
  have H : (if a0 = true then (some 1) else (some 0)) = some r := h
  clear h
  by_cases c2 : a0 = true
  · subst c2
    have H1 : (some 1) = some r := by rw [if_pos rfl] at H; exact H
    clear H
    have H := H1
    clear H1
    obtain rfl := Option.some.inj H
    go_enter Tryz.func100, Tryz.ntmps100
    go_wp2
    go_ret
    exact ⟨by first | rfl | (simp only [Go.IntWalk.i64_left]; first | done | rfl) | (simp; done) | (simp [*]; done), by repeat (first | exact Drawn0.refl _ | apply Drawn0.step)⟩
  · replace c2 := Bool.eq_false_iff.mpr c2
    subst c2
    have H1 : (some 0) = some r := by rw [if_neg (show ¬ (false = true) by decide)] at H; exact H
    clear H
    have H := H1
    clear H1
    obtain rfl := Option.some.inj H
    go_enter Tryz.func100, Tryz.ntmps100
    go_wp2
    go_ret
    exact ⟨by first | rfl | (simp only [Go.IntWalk.i64_left]; first | done | rfl) | (simp; done) | (simp [*]; done), by repeat (first | exact Drawn0.refl _ | apply Drawn0.step)⟩

-- NOT PRINTED: function 89 (atomic_Bool_Store)

-- NOT PRINTED: function 77 (sync_Once_doSlow)

-- NOT PRINTED: function 59 (sync_Once_Do)

-- NOT PRINTED: function 124 (stringslite_HasPrefix)

-- NOT PRINTED: function 113 (strings_HasPrefix)

-- NOT PRINTED: function 114 (strings_longestCommonSuffix)

-- NOT PRINTED: function 101 (strings_makeStringFinder)

-- NOT PRINTED: function 90 (strings_makeSingleStringReplacer)

-- NOT PRINTED: function 102 (strings_trieNode_add)

-- NOT PRINTED: function 91 (strings_makeGenericReplacer)

-- NOT PRINTED: function 78 (strings_Replacer_build)

-- NOT PRINTED: function 60 (strings_Replacer_buildOnce)

-- NOT PRINTED: function 37 (strings_Replacer_Replace)

/-! ### impl_mirrored -/
theorem mi_disable (w : World) : (callFunc 105 #[]).run Tryz.prog w = .ok (.value (.tuple #[])) w := run_call_mark0 Tryz.func105 (by kernel_rfl) (by kernel_rfl) (by kernel_rfl) .disable (by kernel_rfl) w
theorem mi_enable (w : World) : (callFunc 107 #[]).run Tryz.prog w = .ok (.value (.tuple #[])) w := run_call_mark0 Tryz.func107 (by kernel_rfl) (by kernel_rfl) (by kernel_rfl) .enable (by kernel_rfl) w
theorem mi_acquire (a : Addr) (w : World) : (callFunc 108 #[.pointer (some a)]).run Tryz.prog w = .ok (.value (.tuple #[])) w := run_call_marked Tryz.func108 (by kernel_rfl) (by kernel_rfl) (by kernel_rfl) .acquire (by kernel_rfl) a w
theorem mi_release (a : Addr) (w : World) : (callFunc 110 #[.pointer (some a)]).run Tryz.prog w = .ok (.value (.tuple #[])) w := run_call_marked Tryz.func110 (by kernel_rfl) (by kernel_rfl) (by kernel_rfl) .releaseMerge (by kernel_rfl) a w
/-- The flag is set, as a deferred call. -/
theorem mi_store (a : Addr) (x : Value) (u : FrameMode) (w : World) (hc : w.cell? a = some x) (hz : w.frozen? a = false) :
    CallsD Tryz.prog 89 #[.pointer (some a), .bool true] u w fun e u' w' => u' = u ∧ (e = .returned (.tuple #[]) ∧ w' = w.drew.setCell a (.int .u32 1)) := by
  have hc' : w.drew.cell? a = some x := by go_simp
  have hz' : w.drew.frozen? a = false := by go_simp
  have hst := run_call_store (P := Tryz.prog) Tryz.func99 (by kernel_rfl) (by kernel_rfl) (by kernel_rfl) (by kernel_rfl) (k := .u32) (y := 1) hc' hz'
  go_enter_d Tryz.func89, Tryz.ntmps89
  go_wp2
  go_region_calls
  all_goals (go_end0; exact ⟨rfl, rfl⟩)
set_option maxRecDepth 100000 in
/-- The lock is let go, as a deferred call. -/
theorem mi_unlock (a : Addr) (u : FrameMode) (w : World) (hc : w.cell? a = some (.int .i32 1)) (hz : w.frozen? a = false) :
    CallsD Tryz.prog 88 #[.pointer (some a)] u w fun e u' w' => u' = u ∧ (e = .returned (.tuple #[]) ∧ w' = w.setCell a (.int .i32 0)) := by
  have hd := mi_disable
  have he := mi_enable
  have hr := mi_release
  have hadd := run_call_add (P := Tryz.prog) Tryz.func111 (by kernel_rfl) (by kernel_rfl) (by kernel_rfl) .i32 (by kernel_rfl) (y := -1) (s := 0) hc hz (by simp [go_sem]; rfl)
  have hcv := run_convert_to_unsafe (P := Tryz.prog) (src := 156) (dst := 160) Tryz.underlying156 Tryz.underlying160 (by kernel_rfl) hc
  go_enter_d Tryz.func88, Tryz.ntmps88
  go_wp2
  go_end0
  go_wp2
  go_end0
  exact ⟨rfl, rfl⟩
set_option maxRecDepth 100000 in
/-- The lock, free, is taken. -/
theorem mi_lock (a : Addr) (w : World) (hc : w.cell? a = some (.int .i32 0)) (hz : w.frozen? a = false) :
    Calls Tryz.prog 87 #[.pointer (some a)] w fun e w' => e = .returned (.tuple #[]) ∧ w' = w.setCell a (.int .i32 1) := by
  have hd := mi_disable
  have he := mi_enable
  have ha := mi_acquire
  have hcas := run_call_cas_hit (P := Tryz.prog) Tryz.func106 (by kernel_rfl) (by kernel_rfl) (by kernel_rfl) .i32 (by kernel_rfl) (y := 1) hc hz
  have hc' : (w.setCell a (.int .i32 1)).cell? a = some (.int .i32 1) := World.cell?_setCell_same w a _ hc
  have hcv := run_convert_to_unsafe (P := Tryz.prog) (src := 156) (dst := 160) Tryz.underlying156 Tryz.underlying160 (by kernel_rfl) hc'
  go_enter Tryz.func87, Tryz.ntmps87
  go_wp2
  first | go_end0 | (simp only [Exit.inBlock, Exit.then]; refine bodyPost_ret (results_none rfl _ _ _) rfl ?_) | refine bodyPost_ret (results_none rfl _ _ _) rfl ?_
  go_wp2
  go_end0
  exact ⟨rfl, rfl⟩
def miTab (i : Nat) : Array Value := ((List.range 256).map (fun j => if j < i then Value.int .u8 (j : Int) else .int .u8 0)).toArray
theorem miTab_zero : miTab 0 = Tryz.zeroCells131 := by kernel_rfl
theorem miTab_size (i : Nat) : (miTab i).size = 256 := by simp [miTab]
theorem miTab_get (i j : Nat) (h : j < 256) : (miTab i)[j]? = some (if j < i then Value.int .u8 (j : Int) else .int .u8 0) := by
  simp [miTab, h]
theorem miTab_succ (i : Nat) (h : i < 256) : (miTab i).setIfInBounds i (.int .u8 (i : Int)) = miTab (i + 1) := by
  apply Array.ext_getElem?
  intro j
  rw [Array.getElem?_setIfInBounds, miTab_size]
  by_cases hj : j < 256
  · rw [miTab_get _ _ hj, miTab_get _ _ hj]
    by_cases e : i = j
    · subst e
      rw [if_pos rfl, if_pos h, if_pos (by omega)]
    · rw [if_neg e]
      by_cases q : j < i
      · rw [if_pos q, if_pos (by omega)]
      · rw [if_neg q, if_neg (by omega)]
  · have a1 : (miTab i)[j]? = none := Array.getElem?_eq_none (by rw [miTab_size]; omega)
    have a2 : (miTab (i + 1))[j]? = none := Array.getElem?_eq_none (by rw [miTab_size]; omega)
    rw [a1, a2]
    by_cases e : i = j
    · subst e; exact absurd h hj
    · rw [if_neg e]
def miTabR : Nat → Array Value
  | 0 => miTab 256
  | 1 => (miTab 256).setIfInBounds 82 (.int .u8 76)
  | _ => ((miTab 256).setIfInBounds 82 (.int .u8 76)).setIfInBounds 76 (.int .u8 82)
set_option maxHeartbeats 2000000 in
set_option maxRecDepth 100000 in
theorem mi_build (b m c : Nat) (w : World) (hs : w.cell? ⟨b, 4, none⟩ = some (.slice (some ⟨m, 0, none⟩) 4 c)) (h0 : w.cell? ⟨m, 0, none⟩ = some (.string ⟨#[76]⟩)) (h1 : w.cell? ⟨m, 1, none⟩ = some (.string ⟨#[82]⟩)) (h2 : w.cell? ⟨m, 2, none⟩ = some (.string ⟨#[82]⟩)) (h3 : w.cell? ⟨m, 3, none⟩ = some (.string ⟨#[76]⟩)) :
    Calls Tryz.prog 78 #[.pointer (some ⟨b, 0, none⟩)] w fun e w' => e = .returned (.iface 132 (.pointer (some ⟨w.heap.size, 0, none⟩))) ∧ w' = w.alloc (.cells (miTabR 2) 131) := by
  go_enter Tryz.func78, Tryz.ntmps78
  go_wp2
  go_loopw [4, 5] (fun v4 v5 wr => ∃ i : Nat, v4 = .bool true ∧ v5 = .int .i64 ((2 * i : Nat) : Int) ∧ i ≤ 2 ∧ wr = w) (fun _ v5 _ => 5 - (intOf v5).toNat)
  case atStart => exact ⟨0, rfl, rfl, by omega, rfl⟩
  case round =>
    obtain ⟨i, rfl, rfl, hi, rfl⟩ := hrel
    match i, hi with
    | 0, _ =>
      go_wp2
      go_roundw
      case rel => exact ⟨1, rfl, rfl, by omega, trivial⟩
      case measure => simp [intOf]
    | 1, _ =>
      go_wp2
      go_roundw
      case rel => exact ⟨2, rfl, rfl, by omega, trivial⟩
      case measure => simp [intOf]
    | 2, _ =>
      go_wp2
      rw [run_storeCells_new (P := Tryz.prog) wr 131 Tryz.zeroCells131 Tryz.zeroCells131 (by kernel_rfl) rfl (by kernel_rfl)]
      simp only [Result.andThen]
      first | rw [Oper.upon_skip] | simp only [Oper.upon]
      go_wp2
      rw [← miTab_zero]
      go_loopw [61] (fun v61 w2 => ∃ i : Nat, v61 = .int .i64 (i : Int) ∧ i ≤ 256 ∧ w2 = wr.alloc (.cells (miTab i) 131)) (fun v61 _ => 256 - (intOf v61).toNat)
      case atStart => exact ⟨0, rfl, by omega, rfl⟩
      case round =>
        obtain ⟨i, rfl, hi, rfl⟩ := hrel
        by_cases hlt : i < 256
        · have hd : decide ((i : Int) < 256) = true := decide_eq_true (by omega)
          have hc := miTab_get i i hlt
          have hw : IntKind.u8.wrap (i : Int) = (i : Int) := by first | (simp only [IntKind.wrap]; omega) | (simp [IntKind.wrap, IntKind.bits, IntKind.signed]; omega) | (simp [IntKind.wrap, IntKind.bits, IntKind.min, IntKind.max]; omega)
          have hu := miTab_succ i hlt
          go_wp2
          go_roundw
          case rel => exact ⟨i + 1, rfl, by omega, rfl⟩
          case measure => simp [intOf]; omega
        · have hd : decide ((i : Int) < 256) = false := decide_eq_false (by omega)
          obtain rfl : i = 256 := by omega
          have hm := World.block_lt_of_cell? _ _ h0
          have k0 : ∀ o, (wr.alloc o).cell? ⟨m, 0, none⟩ = some (.string ⟨#[76]⟩) := fun o => (World.cell?_alloc_past o m 0 hm).trans h0
          have k1 : ∀ o, (wr.alloc o).cell? ⟨m, 1, none⟩ = some (.string ⟨#[82]⟩) := fun o => (World.cell?_alloc_past o m 1 hm).trans h1
          have k2 : ∀ o, (wr.alloc o).cell? ⟨m, 2, none⟩ = some (.string ⟨#[82]⟩) := fun o => (World.cell?_alloc_past o m 2 hm).trans h2
          have k3 : ∀ o, (wr.alloc o).cell? ⟨m, 3, none⟩ = some (.string ⟨#[76]⟩) := fun o => (World.cell?_alloc_past o m 3 hm).trans h3
          go_wp2
          go_loopw [8] (fun v8 w2 => ∃ i : Nat, v8 = .int .i64 (2 - 2 * (i : Int)) ∧ i ≤ 2 ∧ w2 = wr.alloc (.cells (miTabR i) 131)) (fun v8 _ => (intOf v8 + 2).toNat)
          case atStart => exact ⟨0, rfl, by omega, rfl⟩
          case round =>
            obtain ⟨i, rfl, hi, rfl⟩ := hrel
            match i, hi with
            | 0, _ =>
              have hc : (miTabR 0)[82]? = some (.int .u8 82) := by kernel_rfl
              have hs2 : (miTabR 0).setIfInBounds 82 (.int .u8 76) = miTabR 1 := rfl
              go_wp2
              go_roundw
              case rel => exact ⟨1, rfl, by omega, rfl⟩
              case measure => simp [intOf]
            | 1, _ =>
              have hc : (miTabR 1)[76]? = some (.int .u8 76) := by kernel_rfl
              have hs2 : (miTabR 1).setIfInBounds 76 (.int .u8 82) = miTabR 2 := rfl
              go_wp2
              go_roundw
              case rel => exact ⟨2, rfl, by omega, rfl⟩
              case measure => simp [intOf]
            | 2, _ =>
              go_wp2
              go_ret
              exact ⟨rfl, rfl⟩
abbrev miObj : Obj := .cells (miTabR 2) 131
set_option maxHeartbeats 2000000 in
set_option maxRecDepth 100000 in
theorem mi_once (b m c : Nat) (x3 : Value) (w : World) (hs : w.cell? ⟨b, 4, none⟩ = some (.slice (some ⟨m, 0, none⟩) 4 c)) (h0 : w.cell? ⟨m, 0, none⟩ = some (.string ⟨#[76]⟩)) (h1 : w.cell? ⟨m, 1, none⟩ = some (.string ⟨#[82]⟩)) (h2 : w.cell? ⟨m, 2, none⟩ = some (.string ⟨#[82]⟩)) (h3 : w.cell? ⟨m, 3, none⟩ = some (.string ⟨#[76]⟩))
    (hc3 : w.cell? ⟨b, 3, none⟩ = some x3) (f3 : w.frozen? ⟨b, 3, none⟩ = false) (f4 : w.frozen? ⟨b, 4, none⟩ = false) :
    Calls Tryz.prog 60 #[.pointer (some ⟨b, 0, none⟩)] w fun e w' => e = .returned (.tuple #[]) ∧ w' = ((w.setCell ⟨b, 3, none⟩ (.iface 132 (.pointer (some ⟨w.heap.size, 0, none⟩)))).setCell ⟨b, 4, none⟩ (.slice none 0 0)).alloc miObj := by
  have hb := World.block_lt_of_cell? _ _ hc3
  have k3 : ∀ o, (w.alloc o).cell? ⟨b, 3, none⟩ = some x3 := fun o => (World.cell?_alloc_past o b 3 hb).trans hc3
  have k4 : ∀ o, (w.alloc o).cell? ⟨b, 4, none⟩ = some (.slice (some ⟨m, 0, none⟩) 4 c) := fun o => (World.cell?_alloc_past o b 4 hb).trans hs
  have g3 : ∀ o, (w.alloc o).frozen? ⟨b, 3, none⟩ = false := fun o => (World.frozen?_alloc_past _ _ _ hb).trans f3
  have g4 : ∀ o, (w.alloc o).frozen? ⟨b, 4, none⟩ = false := fun o => (World.frozen?_alloc_past _ _ _ hb).trans f4
  go_enter Tryz.func60, Tryz.ntmps60
  go_wp2_with (go_at_call 78; refine (mi_build b m c _ hs h0 h1 h2 h3).mono ?_; rintro e w' ⟨rfl, rfl⟩)
  go_end0
  exact ⟨rfl, rfl⟩
set_option maxHeartbeats 2000000 in
set_option maxRecDepth 100000 in
theorem mi_slow (b m c : Nat) (hmb : ¬ m = b) (x3 : Value) (w : World) (hs : w.cell? ⟨b, 4, none⟩ = some (.slice (some ⟨m, 0, none⟩) 4 c)) (h0 : w.cell? ⟨m, 0, none⟩ = some (.string ⟨#[76]⟩)) (h1 : w.cell? ⟨m, 1, none⟩ = some (.string ⟨#[82]⟩)) (h2 : w.cell? ⟨m, 2, none⟩ = some (.string ⟨#[82]⟩)) (h3 : w.cell? ⟨m, 3, none⟩ = some (.string ⟨#[76]⟩))
    (hd0 : w.cell? ⟨b, 0, none⟩ = some (.int .u32 0)) (hd1 : w.cell? ⟨b, 1, none⟩ = some (.int .i32 0)) (hc3 : w.cell? ⟨b, 3, none⟩ = some x3) (ff : ∀ j, w.frozen? ⟨b, j, none⟩ = false) :
    Calls Tryz.prog 77 #[.pointer (some ⟨b, 0, none⟩), .func (.func 60) #[.pointer (some ⟨b, 0, none⟩)] #[]] w fun e w' => e = .returned (.tuple #[]) ∧ ∃ W, W = (((w.setCell ⟨b, 1, none⟩ (.int .i32 1)).setCell ⟨b, 3, none⟩ (.iface 132 (.pointer (some ⟨w.heap.size, 0, none⟩)))).setCell ⟨b, 4, none⟩ (.slice none 0 0)).alloc miObj ∧ w' = (W.drew.setCell ⟨b, 0, none⟩ (.int .u32 1)).setCell ⟨b, 1, none⟩ (.int .i32 0) := by
  have hz : (w.setCell ⟨b, 1, none⟩ (.int .i32 1)).heap.size = w.heap.size := by simp [World.setCell]
  have o : ∀ (p : Addr), p ≠ ⟨b, 1, none⟩ → (w.setCell ⟨b, 1, none⟩ (.int .i32 1)).cell? p = w.cell? p := fun p hp => World.cell?_setCell_other _ ⟨b, 1, none⟩ p _ (fun e => hp e.symm)
  have hl := run_call_load (P := Tryz.prog) Tryz.func86 (by kernel_rfl) (by kernel_rfl) (by kernel_rfl) .u32 (by kernel_rfl) (w := w.setCell ⟨b, 1, none⟩ (.int .i32 1)) (a := ⟨b, 0, none⟩) (x := 0) ((o _ (by simp)).trans hd0)
  have c4 : (w.setCell ⟨b, 1, none⟩ (.int .i32 1)).cell? ⟨b, 4, none⟩ = some (.slice (some ⟨m, 0, none⟩) 4 c) := (o _ (by simp)).trans hs
  have c3 : (w.setCell ⟨b, 1, none⟩ (.int .i32 1)).cell? ⟨b, 3, none⟩ = some x3 := (o _ (by simp)).trans hc3
  have m0 : (w.setCell ⟨b, 1, none⟩ (.int .i32 1)).cell? ⟨m, 0, none⟩ = some (.string ⟨#[76]⟩) := (o _ (by simp)).trans h0
  have m1 : (w.setCell ⟨b, 1, none⟩ (.int .i32 1)).cell? ⟨m, 1, none⟩ = some (.string ⟨#[82]⟩) := (o _ (by simp [hmb])).trans h1
  have m2 : (w.setCell ⟨b, 1, none⟩ (.int .i32 1)).cell? ⟨m, 2, none⟩ = some (.string ⟨#[82]⟩) := (o _ (by simp)).trans h2
  have m3 : (w.setCell ⟨b, 1, none⟩ (.int .i32 1)).cell? ⟨m, 3, none⟩ = some (.string ⟨#[76]⟩) := (o _ (by simp)).trans h3
  have hnot : ∀ (x : Bool) (w : World), (Op.unary .not (.bool x)).run Tryz.prog w = .ok (.bool (!x)) w := fun _ _ => rfl
  have f0 := ff 0
  have f1 := ff 1
  go_enter_defers Tryz.func77, Tryz.ntmps77
  go_wp2_with (first | (go_at_call 87; refine (mi_lock ⟨b, 1, none⟩ _ hd1 f1).mono ?_; rintro e w' ⟨rfl, rfl⟩) | (go_at_call 60; refine (mi_once b m c x3 _ c4 m0 m1 m2 m3 c3 (by simp [ff]) (by simp [ff])).mono ?_; rintro e w' ⟨rfl, rfl⟩) | (go_at_call 76; go_in))
  go_wp2
  have hb := World.block_lt_of_cell? _ _ hd0
  have hW0 : (((((w.setCell ⟨b, 1, none⟩ (.int .i32 1)).setCell ⟨b, 3, none⟩ (.iface 132 (.pointer (some ⟨w.heap.size, 0, none⟩)))).setCell ⟨b, 4, none⟩ (.slice none 0 0)).alloc miObj)).cell? ⟨b, 0, none⟩ = some (.int .u32 0) := by
    rw [World.cell?_alloc_past _ _ _ (by simpa [World.setCell] using hb), World.cell?_setCell_other _ ⟨b, 4, none⟩ ⟨b, 0, none⟩ _ (by simp), World.cell?_setCell_other _ ⟨b, 3, none⟩ ⟨b, 0, none⟩ _ (by simp)]
    exact (o _ (by simp)).trans hd0
  have hW1 : (((((w.setCell ⟨b, 1, none⟩ (.int .i32 1)).setCell ⟨b, 3, none⟩ (.iface 132 (.pointer (some ⟨w.heap.size, 0, none⟩)))).setCell ⟨b, 4, none⟩ (.slice none 0 0)).alloc miObj)).cell? ⟨b, 1, none⟩ = some (.int .i32 1) := by
    rw [World.cell?_alloc_past _ _ _ (by simpa [World.setCell] using hb), World.cell?_setCell_other _ ⟨b, 4, none⟩ ⟨b, 1, none⟩ _ (by simp), World.cell?_setCell_other _ ⟨b, 3, none⟩ ⟨b, 1, none⟩ _ (by simp)]
    exact World.cell?_setCell_same w _ _ hd1
  have hF : ∀ j, (((((w.setCell ⟨b, 1, none⟩ (.int .i32 1)).setCell ⟨b, 3, none⟩ (.iface 132 (.pointer (some ⟨w.heap.size, 0, none⟩)))).setCell ⟨b, 4, none⟩ (.slice none 0 0)).alloc miObj)).frozen? ⟨b, j, none⟩ = false := fun j => by
    rw [World.frozen?_alloc_past _ _ _ (by simpa [World.setCell] using hb)]
    simp [ff]
  generalize ((((w.setCell ⟨b, 1, none⟩ (.int .i32 1)).setCell ⟨b, 3, none⟩ (.iface 132 (.pointer (some ⟨w.heap.size, 0, none⟩)))).setCell ⟨b, 4, none⟩ (.slice none 0 0)).alloc miObj) = W0 at hW0 hW1 hF ⊢
  refine leaves_cons (f := 89) (args := #[.pointer (some ⟨b, 0, none⟩), .bool true]) (by simp) (by simp [go_sem]) ?_
  refine (mi_store ⟨b, 0, none⟩ (.int .u32 0) .returning _ hW0 (hF 0)).mono ?_
  rintro e u' w'' ⟨rfl, rfl, rfl⟩
  refine leaves_cons (f := 88) (args := #[.pointer (some ⟨b, 1, none⟩)]) (by simp [settle]) (by simp [go_sem]) ?_
  refine (mi_unlock ⟨b, 1, none⟩ _ _ ((World.cell?_setCell_other _ ⟨b, 0, none⟩ ⟨b, 1, none⟩ _ (by simp)).trans (by rw [World.cell?_drew]; exact hW1)) (by simp [hF])).mono ?_
  rintro e u' w'' ⟨rfl, rfl, rfl⟩
  simp [Leaves, settle, results, Tryz.results77]
/-- What the first call of Do leaves. -/
theorem mi_slow_facts {b B : Nat} {w w' W : World} (hB : B ≤ b) (hb : b < w.heap.size) (hBw : B ≤ w.heap.size) (x3 : Value) (hc3 : w.cell? ⟨b, 3, none⟩ = some x3) (hW : W = (((w.setCell ⟨b, 1, none⟩ (.int .i32 1)).setCell ⟨b, 3, none⟩ (.iface 132 (.pointer (some ⟨w.heap.size, 0, none⟩)))).setCell ⟨b, 4, none⟩ (.slice none 0 0)).alloc miObj) (hw : w' = (W.drew.setCell ⟨b, 0, none⟩ (.int .u32 1)).setCell ⟨b, 1, none⟩ (.int .i32 0)) :
    Below B w w' ∧ w'.cell? ⟨b, 3, none⟩ = some (.iface 132 (.pointer (some ⟨w.heap.size, 0, none⟩))) ∧ w'.heap[w.heap.size]? = some miObj := by
  subst hw hW
  have hz : (((w.setCell ⟨b, 1, none⟩ (.int .i32 1)).setCell ⟨b, 3, none⟩ (.iface 132 (.pointer (some ⟨w.heap.size, 0, none⟩)))).setCell ⟨b, 4, none⟩ (.slice none 0 0)).heap.size = w.heap.size := by simp [World.setCell]
  refine ⟨?_, ?_, ?_⟩
  · refine Below.setCell (p := ⟨b, 1, none⟩) (Below.setCell (p := ⟨b, 0, none⟩) (Below.drew (Below.alloc (Below.setCell (p := ⟨b, 4, none⟩) (Below.setCell (p := ⟨b, 3, none⟩) (Below.setCell (p := ⟨b, 1, none⟩) (Below.refl _ _) hB _) hB _) hB _) (by rw [hz]; exact hBw) _)) hB _) hB _
  · rw [World.cell?_setCell_other _ ⟨b, 1, none⟩ ⟨b, 3, none⟩ _ (by simp), World.cell?_setCell_other _ ⟨b, 0, none⟩ ⟨b, 3, none⟩ _ (by simp), World.cell?_drew, World.cell?_alloc_past _ _ _ (by rw [hz]; exact hb), World.cell?_setCell_other _ ⟨b, 4, none⟩ ⟨b, 3, none⟩ _ (by simp)]
    exact World.cell?_setCell_same _ _ _ ((World.cell?_setCell_other _ ⟨b, 1, none⟩ ⟨b, 3, none⟩ _ (by simp)).trans hc3)
  · have e : ∀ (V : World) (j : Nat) (v : Value), (V.setCell ⟨b, j, none⟩ v).heap[w.heap.size]? = V.heap[w.heap.size]? := fun V j v => by
      simp only [World.setCell, Array.getElem?_modify]
      rw [if_neg (by omega)]
    have al : ∀ (V : World) (o : Obj), (V.alloc o).heap[V.heap.size]? = some o := fun V o => by show (V.heap.push o)[V.heap.size]? = some o; simp
    have q := al (((w.setCell ⟨b, 1, none⟩ (.int .i32 1)).setCell ⟨b, 3, none⟩ (.iface 132 (.pointer (some ⟨w.heap.size, 0, none⟩)))).setCell ⟨b, 4, none⟩ (.slice none 0 0)) miObj
    rw [hz] at q
    rw [e, e]
    exact q
theorem mi_slow2 (b m c : Nat) (hmb : ¬ m = b) (x3 : Value) (w : World) (hs : w.cell? ⟨b, 4, none⟩ = some (.slice (some ⟨m, 0, none⟩) 4 c)) (h0 : w.cell? ⟨m, 0, none⟩ = some (.string ⟨#[76]⟩)) (h1 : w.cell? ⟨m, 1, none⟩ = some (.string ⟨#[82]⟩)) (h2 : w.cell? ⟨m, 2, none⟩ = some (.string ⟨#[82]⟩)) (h3 : w.cell? ⟨m, 3, none⟩ = some (.string ⟨#[76]⟩))
    (hd0 : w.cell? ⟨b, 0, none⟩ = some (.int .u32 0)) (hd1 : w.cell? ⟨b, 1, none⟩ = some (.int .i32 0)) (hc3 : w.cell? ⟨b, 3, none⟩ = some x3) (ff : ∀ j, w.frozen? ⟨b, j, none⟩ = false) (B : Nat) (hB : B ≤ b) :
    Calls Tryz.prog 77 #[.pointer (some ⟨b, 0, none⟩), .func (.func 60) #[.pointer (some ⟨b, 0, none⟩)] #[]] w fun e w' => e = .returned (.tuple #[]) ∧ Aside0 (Below B w w' ∧ w'.cell? ⟨b, 3, none⟩ = some (.iface 132 (.pointer (some ⟨w.heap.size, 0, none⟩))) ∧ w'.heap[w.heap.size]? = some miObj) := by
  have hb := World.block_lt_of_cell? _ _ hd0
  have hBw : B ≤ w.heap.size := Nat.le_trans hB (Nat.le_of_lt hb)
  refine (mi_slow b m c hmb x3 w hs h0 h1 h2 h3 hd0 hd1 hc3 ff).mono ?_
  rintro e w' ⟨he, W, hW, hw'⟩
  exact ⟨he, ⟨mi_slow_facts hB hb hBw x3 hc3 hW hw'⟩⟩
set_option maxHeartbeats 2000000 in
set_option maxRecDepth 100000 in
theorem mi_do (b m c : Nat) (hmb : ¬ m = b) (x3 : Value) (w : World) (hs : w.cell? ⟨b, 4, none⟩ = some (.slice (some ⟨m, 0, none⟩) 4 c)) (h0 : w.cell? ⟨m, 0, none⟩ = some (.string ⟨#[76]⟩)) (h1 : w.cell? ⟨m, 1, none⟩ = some (.string ⟨#[82]⟩)) (h2 : w.cell? ⟨m, 2, none⟩ = some (.string ⟨#[82]⟩)) (h3 : w.cell? ⟨m, 3, none⟩ = some (.string ⟨#[76]⟩))
    (hd0 : w.cell? ⟨b, 0, none⟩ = some (.int .u32 0)) (hd1 : w.cell? ⟨b, 1, none⟩ = some (.int .i32 0)) (hc3 : w.cell? ⟨b, 3, none⟩ = some x3) (ff : ∀ j, w.frozen? ⟨b, j, none⟩ = false) (B : Nat) (hB : B ≤ b) :
    Calls Tryz.prog 59 #[.pointer (some ⟨b, 0, none⟩), .func (.func 60) #[.pointer (some ⟨b, 0, none⟩)] #[]] w fun e w' => e = .returned (.tuple #[]) ∧ Aside0 (Below B w w' ∧ w'.cell? ⟨b, 3, none⟩ = some (.iface 132 (.pointer (some ⟨w.heap.size, 0, none⟩))) ∧ w'.heap[w.heap.size]? = some miObj) := by
  have hl := run_call_load (P := Tryz.prog) Tryz.func86 (by kernel_rfl) (by kernel_rfl) (by kernel_rfl) .u32 (by kernel_rfl) hd0
  have hnot : ∀ (x : Bool) (w : World), (Op.unary .not (.bool x)).run Tryz.prog w = .ok (.bool (!x)) w := fun _ _ => rfl
  go_enter Tryz.func59, Tryz.ntmps59
  go_wp2_with (first | (go_at_call 77; refine (mi_slow2 b m c hmb x3 _ hs h0 h1 h2 h3 hd0 hd1 hc3 ff B hB).mono ?_; rintro e w' ⟨rfl, HF⟩) | (go_at_call 76; go_in))
  go_end0
  exact ⟨rfl, HF⟩
def miSw (c : UInt8) : UInt8 := if c = 76 then 82 else if c = 82 then 76 else c
theorem miTabR_get (c : UInt8) : (miTabR 2)[c.toNat]? = some (.int .u8 ((miSw c).toNat : Int)) := by
  have h : ∀ i : Fin 256, (miTabR 2)[i.val]? = some (.int .u8 ((miSw (UInt8.ofNat i.val)).toNat : Int)) := by
    intro i
    obtain ⟨i, hi⟩ := i
    show (((miTab 256).setIfInBounds 82 (.int .u8 76)).setIfInBounds 76 (.int .u8 82))[i]? = _
    rw [Array.getElem?_setIfInBounds, Array.getElem?_setIfInBounds, miTab_get 256 i hi, if_pos hi]
    unfold miSw
    by_cases e1 : i = 76
    · subst e1; simp [miTab_size]
    · by_cases e2 : i = 82
      · subst e2; simp [miTab_size]
      · have n1 : ¬ UInt8.ofNat i = 76 := fun e => e1 (by have := congrArg UInt8.toNat e; simp at this; omega)
        have n2 : ¬ UInt8.ofNat i = 82 := fun e => e2 (by have := congrArg UInt8.toNat e; simp at this; omega)
        rw [if_neg (Ne.symm e1), if_neg (Ne.symm e2), if_neg n1, if_neg n2]
        have : (UInt8.ofNat i).toNat = i := by simp; omega
        rw [this]
  have := h ⟨c.toNat, c.toNat_lt⟩
  simpa using this
def miMix (l : List UInt8) (i : Nat) : List UInt8 := (l.take i).map miSw ++ l.drop i
theorem miMix_len (l : List UInt8) (i : Nat) : (miMix l i).length = l.length := by simp [miMix]; omega
theorem miMix_get (l : List UInt8) (i j : Nat) (hj : j < l.length) : (miMix l i)[j]? = some (if j < i then miSw l[j] else l[j]) := by
  unfold miMix
  by_cases h : j < i
  · rw [List.getElem?_append_left (by simp; omega), if_pos h, List.getElem?_map, List.getElem?_take, if_pos h, List.getElem?_eq_getElem hj]
    rfl
  · rw [List.getElem?_append_right (by simp; omega), if_neg h, List.getElem?_drop]
    have e : i + (j - ((l.take i).map miSw).length) = j := by
      have : ((l.take i).map miSw).length = i := by simp; omega
      omega
    rw [e, List.getElem?_eq_getElem hj]
/-- What the copy holds when i characters are done. -/
def MiBuf (s : ByteArray) (n i : Nat) (W : World) : Prop := ∀ j (hj : j < s.data.toList.length), W.cell? ⟨n, j, none⟩ = some (.int .u8 ((if j < i then miSw s.data.toList[j] else s.data.toList[j]).toNat : Int)) ∧ W.frozen? ⟨n, j, none⟩ = false
def MiRel (s : ByteArray) (w : World) (i : Nat) (v : Value) (W : World) : Prop := (v = .slice none 0 0 ∧ W = w ∧ ∀ j (hj : j < s.data.toList.length), j < i → miSw s.data.toList[j] = s.data.toList[j]) ∨ (∃ c, v = .slice (some ⟨w.heap.size, 0, none⟩) s.size c ∧ MiBuf s w.heap.size i W ∧ Below w.heap.size w W ∧ 0 < i)
set_option maxHeartbeats 2000000 in
set_option maxRecDepth 100000 in
theorem mi_rep (g : Nat) (s : ByteArray) (w : World) (hz : s.size ≤ 1048576) (hg : w.heap[g]? = some miObj) :
    Calls Tryz.prog 154 #[.pointer (some ⟨g, 0, none⟩), .string s] w fun e w' => e = .returned (.string ⟨(s.data.toList.map miSw).toArray⟩) ∧ Below w.heap.size w w' := by
  have hlen : s.data.toList.length = s.size := by simp
  have hgl : g < w.heap.size := blk_lt hg
  have HG := Aside0.mk hg
  have HL := Aside0.mk hlen
  have HZ := Aside0.mk hz
  clear hg hlen hz
  have hsl : ∀ (W : World) (a : Option Addr) (n c : Nat), (binOp .eql 22 (.slice a n c) (.slice none 0 0)).run Tryz.prog W = .ok (.bool a.isNone) W := fun W a n c => Lib.run_eql_slice_nil W 22 5 a n c 0 0 Tryz.underlying22
  have hcv : ∀ W : World, (convert 9 22 (.string s)).run Tryz.prog W = .ok (.slice (some ⟨W.heap.size, 0, none⟩) s.size (grownCap W s.size 0 5)) (Lib.bytesWorld W 5 s) := fun W => Lib.run_convert_string_bytes W 9 22 5 s Tryz.underlying9 Tryz.underlying22 Tryz.underlying5
  go_enter Tryz.func154, Tryz.ntmps154
  go_wp2
  go_loopw [5, 6] (fun v5 v6 wr => ∃ i : Nat, v6 = .int .i64 (i : Int) ∧ i ≤ s.size ∧ Aside0 (MiRel s w i v5 wr)) (fun _ v6 _ => s.size - (intOf v6).toNat)
  case atStart => exact ⟨0, rfl, Nat.zero_le _, ⟨.inl ⟨rfl, rfl, fun j hj hji => absurd hji (Nat.not_lt_zero _)⟩⟩⟩
  case round =>
    obtain ⟨i, rfl, hi, HR⟩ := hrel
    by_cases hlt : i < s.size
    · have hd : decide ((i : Int) < (s.size : Int)) = true := decide_eq_true (by omega)
      have hp : (0 ≤ (i : Int)) = True := eq_true (by omega)
      have hq : ((i : Int) < (s.size : Int)) = True := eq_true (by omega)
      have hl := HL.out
      have hil : i < s.data.toList.length := by omega
      obtain ⟨ch, hch⟩ : ∃ ch, ch = s.data.toList[i] := ⟨_, rfl⟩
      have hx : ∀ h : i < s.size, ((s[i]'h).toNat : Int) = (ch.toNat : Int) := fun h => by rw [hch]; simp [ByteArray.getElem_eq_getElem_data]
      have HCH := Aside0.mk hch
      have hw : wrap64 ((i : Int) + 1) = ((i + 1 : Nat) : Int) := by
        have := HZ.out
        unfold wrap64
        omega
      have HW := Aside0.mk hw
      clear hw
      have hmeas : s.size - (intOf (Value.int IntKind.i64 ((i + 1 : Nat) : Int))).toNat < s.size - (intOf (Value.int IntKind.i64 (i : Int))).toNat := by
        show s.size - (((i + 1 : Nat) : Int)).toNat < s.size - (i : Int).toNat
        omega
      have HM := Aside0.mk hmeas
      clear hmeas
      have hcb0 : (0 ≤ (ch.toNat : Int)) = True := eq_true (Int.natCast_nonneg _)
      have hcb1 : ((ch.toNat : Int) < 256) = True := eq_true (by have := ch.toNat_lt; omega)
      clear hch
      rcases HR.out with ⟨rfl, hww, hsame⟩ | ⟨c, rfl, hbuf, hbel, hi0⟩
      · -- nothing was copied yet
        subst hww
        have HS := Aside0.mk hsame
        have hcell : wr.cell? ⟨g, ch.toNat, none⟩ = some (.int .u8 ((miSw ch).toNat : Int)) := (blk_cell HG.out ch.toNat).trans (miTabR_get ch)
        clear hl hsame HR
        by_cases he : miSw ch = ch
        · have hne : (((miSw ch).toNat : Int) != (ch.toNat : Int)) = false := by rw [he]; simp
          have HE := Aside0.mk he
          clear he
          go_wp2
          go_roundw
          case rel =>
            refine ⟨i + 1, congrArg (Value.int .i64) HW.out, hlt, ⟨.inl ⟨rfl, rfl, fun j hj hji => ?_⟩⟩⟩
            by_cases e : j = i
            · subst e; rw [← HCH.out]; exact HE.out
            · exact HS.out j hj (by omega)
          case measure => rw [HW.out]; exact HM.out
        · have hne : (((miSw ch).toNat : Int) != (ch.toNat : Int)) = true := by
            refine bne_iff_ne.2 (fun e => he (UInt8.toNat_inj.1 (by omega)))
          have b1 : (Lib.bytesWorld wr 5 s).cell? ⟨g, ch.toNat, none⟩ = some (.int .u8 ((miSw ch).toNat : Int)) := (Lib.bytesWorld_old wr _ s ⟨g, ch.toNat, none⟩ hgl).trans hcell
          have b2 : ∀ j, j < s.size → (Lib.bytesWorld wr 5 s).cell? ⟨wr.heap.size, j, none⟩ = some (.int .u8 (s.data.toList.getD j 0).toNat) := fun j hj => Lib.bytesWorld_cell wr _ s j hj
          have b3 : ∀ j, j < s.size → (Lib.bytesWorld wr 5 s).frozen? ⟨wr.heap.size, j, none⟩ = false := fun j hj => by
            have hk : s.size ≤ (Lib.bytesCells wr 5 s).size := by simp [Lib.bytesCells]
            simp [World.frozen?, Lib.bytesWorld_at_new]
            omega
          have b4 : Below wr.heap.size wr (Lib.bytesWorld wr 5 s) := bytes_below (Below.refl _ _) (Nat.le_refl _) _ _
          have B2 := Aside0.mk b2
          have B3 := Aside0.mk b3
          have B4 := Aside0.mk b4
          have c1 := b2 i hlt
          have c2 := b3 i hlt
          clear b2 b3 b4
          go_wp2
          go_roundw
          case rel =>
            have hl := HL.out
            refine ⟨i + 1, congrArg (Value.int .i64) HW.out, hlt, ⟨.inr ⟨_, rfl, fun j hj => ⟨?_, ?_⟩, Below.setCell (p := ⟨wr.heap.size, i, none⟩) B4.out (Nat.le_refl _) _, Nat.succ_pos _⟩⟩⟩
            · by_cases e : j = i
              · subst e
                rw [if_pos (Nat.lt_succ_self _), ← HCH.out]
                exact World.cell?_setCell_same _ _ _ (B2.out j (by omega))
              · rw [World.cell?_setCell_other _ ⟨wr.heap.size, i, none⟩ ⟨wr.heap.size, j, none⟩ _ (by intro z; cases z; exact e rfl), B2.out j (by omega)]
                have hg : s.data.toList.getD j 0 = s.data.toList[j] := by rw [List.getD_eq_getElem?_getD, List.getElem?_eq_getElem hj]; rfl
                rw [hg]
                by_cases q : j < i
                · rw [if_pos (by omega), HS.out j hj q]
                · rw [if_neg (by omega)]
            · simp [B3.out j (by omega)]
          case measure => rw [HW.out]; exact HM.out
      · -- the copy is there
        have hgW : wr.heap[g]? = some miObj := (hbel.block g hgl).trans HG.out
        have hcell : wr.cell? ⟨g, ch.toNat, none⟩ = some (.int .u8 ((miSw ch).toNat : Int)) := (blk_cell hgW ch.toNat).trans (miTabR_get ch)
        have c1 := (hbuf i hil).1
        have c2 := (hbuf i hil).2
        have HBF := Aside0.mk hbuf
        have HBE := Aside0.mk hbel
        clear hl hbuf hbel hgW HR
        by_cases he : miSw ch = ch
        · have hne : (((miSw ch).toNat : Int) != (ch.toNat : Int)) = false := by rw [he]; simp
          have HE := Aside0.mk he
          clear he c1 c2
          go_wp2
          go_roundw
          case rel =>
            refine ⟨i + 1, congrArg (Value.int .i64) HW.out, hlt, ⟨.inr ⟨_, rfl, fun j hj => ⟨?_, (HBF.out j hj).2⟩, HBE.out, Nat.succ_pos _⟩⟩⟩
            rw [(HBF.out j hj).1]
            by_cases e : j = i
            · subst e
              rw [if_neg (Nat.lt_irrefl _), if_pos (Nat.lt_succ_self _), ← HCH.out, HE.out]
            · by_cases q : j < i
              · rw [if_pos q, if_pos (by omega)]
              · rw [if_neg q, if_neg (by omega)]
          case measure => rw [HW.out]; exact HM.out
        · have hne : (((miSw ch).toNat : Int) != (ch.toNat : Int)) = true := by
            refine bne_iff_ne.2 (fun e => he (UInt8.toNat_inj.1 (by omega)))
          go_wp2
          go_roundw
          case rel =>
            refine ⟨i + 1, congrArg (Value.int .i64) HW.out, hlt, ⟨.inr ⟨_, rfl, fun j hj => ⟨?_, ?_⟩, Below.setCell (p := ⟨w.heap.size, i, none⟩) HBE.out (Nat.le_refl _) _, Nat.succ_pos _⟩⟩⟩
            · by_cases e : j = i
              · subst e
                rw [if_pos (Nat.lt_succ_self _), ← HCH.out]
                exact World.cell?_setCell_same _ _ _ (HBF.out j hj).1
              · rw [World.cell?_setCell_other _ ⟨w.heap.size, i, none⟩ ⟨w.heap.size, j, none⟩ _ (by intro z; cases z; exact e rfl), (HBF.out j hj).1]
                by_cases q : j < i
                · rw [if_pos q, if_pos (by omega)]
                · rw [if_neg q, if_neg (by omega)]
            · simp [(HBF.out j hj).2]
          case measure => rw [HW.out]; exact HM.out
    · have hd : decide ((i : Int) < (s.size : Int)) = false := decide_eq_false (by omega)
      have hl := HL.out
      obtain rfl : i = s.size := by omega
      rcases HR.out with ⟨rfl, hww, hsame⟩ | ⟨c, rfl, hbuf, hbel, hi0⟩
      · subst hww
        have HV := Aside0.mk (show (⟨(s.data.toList.map miSw).toArray⟩ : ByteArray) = s by
          have e : s.data.toList.map miSw = s.data.toList := by
            apply List.ext_getElem (by simp)
            intro j h1 h2
            rw [List.getElem_map]
            exact hsame j h2 (by omega)
          rw [e])
        clear hsame HR hl
        go_wp2
        go_ret
        rw [HV.out]
        exact ⟨rfl, Below.refl _ _⟩
      · have hcs : (convert 22 9 (.slice (some ⟨w.heap.size, 0, none⟩) s.size c)).run Tryz.prog wr = .ok (.string (strOfNums (s.data.toList.map (fun x => ((miSw x).toNat : Int))))) wr := by
          refine run_convert_bytes_arg wr 22 5 Tryz.underlying22 Tryz.underlying5 w.heap.size 0 s.size c _ (by simp) (fun j hj => ?_) 9 Tryz.underlying9
          have hj' : j < s.data.toList.length := by omega
          rw [Nat.zero_add, (hbuf j hj').1, if_pos hj]
          rw [List.getD_eq_getElem?_getD, List.getElem?_map, List.getElem?_eq_getElem hj']
          rfl
        have HV := Aside0.mk (show strOfNums (s.data.toList.map (fun x => ((miSw x).toNat : Int))) = (⟨(s.data.toList.map miSw).toArray⟩ : ByteArray) by
          unfold strOfNums
          simp [List.map_map, Function.comp_def])
        have HBE := Aside0.mk hbel
        clear hbuf hbel HR hl
        go_wp2
        go_ret
        rw [HV.out]
        exact ⟨rfl, HBE.out⟩
/-- A new Replacer: its block b, the copy m of its texts. -/
def MiNew (w w' : World) (b m c : Nat) : Prop := Below w.heap.size w w' ∧ w.heap.size ≤ b ∧ ¬ m = b ∧ (w'.cell? ⟨b, 0, none⟩ = some (.int .u32 0) ∧ w'.cell? ⟨b, 1, none⟩ = some (.int .i32 0) ∧ w'.cell? ⟨b, 3, none⟩ = some .nilIface ∧ w'.cell? ⟨b, 4, none⟩ = some (.slice (some ⟨m, 0, none⟩) 4 c)) ∧ (∀ j, w'.frozen? ⟨b, j, none⟩ = false) ∧ w'.cell? ⟨m, 0, none⟩ = some (.string ⟨#[76]⟩) ∧ w'.cell? ⟨m, 1, none⟩ = some (.string ⟨#[82]⟩) ∧ w'.cell? ⟨m, 2, none⟩ = some (.string ⟨#[82]⟩) ∧ w'.cell? ⟨m, 3, none⟩ = some (.string ⟨#[76]⟩)
def miTexts : List ByteArray := [⟨#[76]⟩, ⟨#[82]⟩, ⟨#[82]⟩, ⟨#[76]⟩]
theorem mi_texts (q : Nat) (w : World) (h0 : w.cell? ⟨q, 0, none⟩ = some (.string ⟨#[76]⟩)) (h1 : w.cell? ⟨q, 1, none⟩ = some (.string ⟨#[82]⟩)) (h2 : w.cell? ⟨q, 2, none⟩ = some (.string ⟨#[82]⟩)) (h3 : w.cell? ⟨q, 3, none⟩ = some (.string ⟨#[76]⟩)) : Kd.C Kd.string w (some ⟨q, 0, none⟩) 4 miTexts := by
  refine ⟨rfl, by decide, fun _ => ⟨⟨q, 0, none⟩, rfl, fun j p hp => ⟨[.string p], rfl, rfl, fun i u hu => ?_⟩⟩⟩
  have hi : i = 0 := by
    rcases i with _ | i
    · rfl
    · simp at hu
  subst hi
  obtain rfl : Value.string p = u := by simpa using hu
  match j, hp with
  | 0, hp => obtain rfl : (⟨#[76]⟩ : ByteArray) = p := by simpa [miTexts] using hp
             exact h0
  | 1, hp => obtain rfl : (⟨#[82]⟩ : ByteArray) = p := by simpa [miTexts] using hp
             exact h1
  | 2, hp => obtain rfl : (⟨#[82]⟩ : ByteArray) = p := by simpa [miTexts] using hp
             exact h2
  | 3, hp => obtain rfl : (⟨#[76]⟩ : ByteArray) = p := by simpa [miTexts] using hp
             exact h3
  | j + 4, hp => simp [miTexts] at hp
theorem mi_new_facts {w w1 : World} {go co : Nat} (hb : Below w.heap.size w w1) (ho : Kd.R Kd.string 9 w1 w.heap.size (fun _ => True) (.slice (some ⟨go, 0, none⟩) 4 co) miTexts) (gl : go < w1.heap.size) : MiNew w (w1.alloc (.cells #[.int .u32 0, .int .i32 0, .int .u32 0, .nilIface, .slice (some ⟨go, 0, none⟩) 4 co] 96)) w1.heap.size go co := by
  have al : (w1.alloc (.cells #[.int .u32 0, .int .i32 0, .int .u32 0, .nilIface, .slice (some ⟨go, 0, none⟩) 4 co] 96)).heap[w1.heap.size]? = some (.cells #[.int .u32 0, .int .i32 0, .int .u32 0, .nilIface, .slice (some ⟨go, 0, none⟩) 4 co] 96 (0, 0)) := by
    show (w1.heap.push _)[w1.heap.size]? = _
    simp
  have hm : ∀ j, w1.cell? ⟨go, j, none⟩ = (w1.alloc (.cells #[.int .u32 0, .int .i32 0, .int .u32 0, .nilIface, .slice (some ⟨go, 0, none⟩) 4 co] 96)).cell? ⟨go, j, none⟩ := fun j => (World.cell?_alloc_past _ go j gl).symm
  refine ⟨hb.alloc hb.size _, hb.size, by omega, ⟨(blk_cell al 0).trans rfl, (blk_cell al 1).trans rfl, (blk_cell al 3).trans rfl, (blk_cell al 4).trans rfl⟩, fun j => blk_frozen al j, ?_, ?_, ?_, ?_⟩
  · exact (hm 0).symm.trans (Kd.R_celln ⟨#[]⟩ ho 0 (by omega) (by decide)).1
  · exact (hm 1).symm.trans (Kd.R_celln ⟨#[]⟩ ho 1 (by omega) (by decide)).1
  · exact (hm 2).symm.trans (Kd.R_celln ⟨#[]⟩ ho 2 (by omega) (by decide)).1
  · exact (hm 3).symm.trans (Kd.R_celln ⟨#[]⟩ ho 3 (by omega) (by decide)).1
set_option maxHeartbeats 2000000 in
set_option maxRecDepth 100000 in
theorem mi_new (q : Nat) (w : World) (h0 : w.cell? ⟨q, 0, none⟩ = some (.string ⟨#[76]⟩)) (h1 : w.cell? ⟨q, 1, none⟩ = some (.string ⟨#[82]⟩)) (h2 : w.cell? ⟨q, 2, none⟩ = some (.string ⟨#[82]⟩)) (h3 : w.cell? ⟨q, 3, none⟩ = some (.string ⟨#[76]⟩)) :
    Calls Tryz.prog 36 #[.slice (some ⟨q, 0, none⟩) 4 4] w fun e w' => ∃ b m c : Nat, e = .returned (.pointer (some ⟨b, 0, none⟩)) ∧ Aside0 (MiNew w w' b m c) := by
  have HC := Aside0.mk (mi_texts q w h0 h1 h2 h3)
  go_enter Tryz.func36, Tryz.ntmps36
  go_wp2_with ((with_reducible refine gate_builtin (b := .append) (xs := #[.const (.slice none 0 0), .tmp 8]) rfl ?_); at_builtin; refine Kd.R_append_rows Kd.string (w0 := w) w.heap.size rfl (.const (.slice none 0 0)) (.tmp 8) 80 9 (.string (⟨#[]⟩ : ByteArray)) 16 rfl Tryz.underlying80 (by kernel_rfl) rfl (by decide) (by omega) (.slice none 0 0) [] miTexts (some ⟨q, 0, none⟩) 4 4 (fun _ => True) (fun _ => False) rfl rfl (Kd.R_nil _ _ _ _ _) HC.out (fun _ _ h => h) (fun _ h => h.elim) (fun _ _ => trivial) (Below.refl _ _) (Nat.le_refl _) (by decide) ?_; intro v1 w1 ho hb hg hat; obtain ⟨go, co, rfl, gb, gl, cl, hG⟩ := Kd.R_form ho (by decide); have HO := Aside0.mk ho; have HB := Aside0.mk hb; have HGL := Aside0.mk gl; clear ho hb hg hat gb gl hG)

  go_ret
  exact ⟨_, _, _, rfl, ⟨mi_new_facts HB.out HO.out HGL.out⟩⟩
set_option maxHeartbeats 2000000 in
set_option maxRecDepth 100000 in
theorem mi_replace (b m c B : Nat) (s : ByteArray) (w0 w : World) (hz : s.size ≤ 1048576) (hB : B ≤ b) (hN : MiNew w0 w b m c) :
    Calls Tryz.prog 37 #[.pointer (some ⟨b, 0, none⟩), .string s] w fun e w' => e = .returned (.string ⟨(s.data.toList.map miSw).toArray⟩) ∧ Below B w w' := by
  obtain ⟨_, _, hmb, ⟨d0, d1, d3, d4⟩, ff, m0, m1, m2, m3⟩ := hN
  have hmf : ∀ (fn : Fn) (first cap : Array Value) (w : World), (Instr.makeFunc fn first cap).run Tryz.prog w = .ok (.func fn first cap) w := fun _ _ _ _ => rfl
  have hme : ∀ (d g : Nat) (W : World), (method (d + 3) 132 (.pointer (some ⟨g, 0, none⟩)) "Replace").run Tryz.prog W = .ok (154, .pointer (some ⟨g, 0, none⟩)) W := fun _ _ _ => by first | rfl | kernel_rfl
  have hBw : B ≤ w.heap.size := Nat.le_trans hB (Nat.le_of_lt (World.block_lt_of_cell? _ _ d0))
  have HBW := Aside0.mk hBw
  clear hBw
  go_enter Tryz.func37, Tryz.ntmps37
  go_wp2_with (first | (go_at_call 59; refine (mi_do b m c hmb .nilIface _ d4 m0 m1 m2 m3 d0 d1 d3 ff B hB).mono ?_; rintro e w1 ⟨rfl, HF⟩; have hc1 := HF.out.2.1) | (go_at_call 154; refine (mi_rep w.heap.size s _ hz HF.out.2.2).mono ?_; rintro e w2 ⟨rfl, hb2⟩; have HB2 := Aside0.mk hb2; clear hb2))
  go_ret
  exact ⟨rfl, HF.out.1.trans (HB2.out.mono (Nat.le_trans HBW.out HF.out.1.size))⟩
def impl_mirrored.f (a0 : ByteArray) : Option ByteArray := if a0.size ≤ 1048576 then some ⟨(a0.data.toList.map miSw).toArray⟩ else none
set_option maxHeartbeats 2000000 in
set_option maxRecDepth 100000 in
theorem impl_mirrored.calls (a0 : ByteArray) (r : ByteArray) (w : World) (h : impl_mirrored.f a0 = some r) :
    Calls Tryz.prog 22 #[.string a0] w fun e w' => e = .returned (.string r) ∧ Below w.heap.size w w' := by
  unfold impl_mirrored.f at h
  by_cases hz : a0.size ≤ 1048576
  · rw [if_pos hz] at h
    obtain rfl := Option.some.inj h
    have HZ := Aside0.mk hz
    have al : ∀ o : Obj, (w.alloc o).heap[w.heap.size]? = some o := fun o => by show (w.heap.push o)[w.heap.size]? = some o; simp
    have q0 : (w.alloc (.cells #[.string ⟨#[76]⟩, .string ⟨#[82]⟩, .string ⟨#[82]⟩, .string ⟨#[76]⟩] 9)).cell? ⟨w.heap.size, 0, none⟩ = some (.string ⟨#[76]⟩) := (blk_cell (al _) 0).trans rfl
    have q1 : (w.alloc (.cells #[.string ⟨#[76]⟩, .string ⟨#[82]⟩, .string ⟨#[82]⟩, .string ⟨#[76]⟩] 9)).cell? ⟨w.heap.size, 1, none⟩ = some (.string ⟨#[82]⟩) := (blk_cell (al _) 1).trans rfl
    have q2 : (w.alloc (.cells #[.string ⟨#[76]⟩, .string ⟨#[82]⟩, .string ⟨#[82]⟩, .string ⟨#[76]⟩] 9)).cell? ⟨w.heap.size, 2, none⟩ = some (.string ⟨#[82]⟩) := (blk_cell (al _) 2).trans rfl
    have q3 : (w.alloc (.cells #[.string ⟨#[76]⟩, .string ⟨#[82]⟩, .string ⟨#[82]⟩, .string ⟨#[76]⟩] 9)).cell? ⟨w.heap.size, 3, none⟩ = some (.string ⟨#[76]⟩) := (blk_cell (al _) 3).trans rfl
    have QS := Aside0.mk (And.intro q0 (And.intro q1 (And.intro q2 q3)))
    have HW := Aside0.mk (below_alloc (Below.refl w.heap.size w) (.cells #[.string ⟨#[76]⟩, .string ⟨#[82]⟩, .string ⟨#[82]⟩, .string ⟨#[76]⟩] 9))
    clear h hz q0 q1 q2 q3 al
    go_enter Tryz.func22, Tryz.ntmps22
    go_wp2_with (first | (go_at_call 36; refine (mi_new w.heap.size _ QS.out.1 QS.out.2.1 QS.out.2.2.1 QS.out.2.2.2).mono ?_; rintro e w1 ⟨b, m, c, rfl, HN⟩) | (go_at_call 37; refine (mi_replace b m c w.heap.size a0 _ _ HZ.out (Nat.le_trans HW.out.size HN.out.2.1) HN.out).mono ?_; rintro e w2 ⟨rfl, hb2⟩; have HB2 := Aside0.mk hb2; clear hb2))
    go_ret
    exact ⟨rfl, (HW.out.trans (HN.out.1.mono HW.out.size)).trans HB2.out⟩
  · rw [if_neg hz] at h
    cases h

/-! ### impl_MirrorFolds: function 8 -/
def impl_MirrorFolds.f (a0 : ByteArray) : Option (ByteArray × Int) := (impl_IsFolds.f a0).bind fun t127 => (if t127 = true then ((impl_mirrored.f a0).bind fun t128 => (some (t128, 0))) else (some ((⟨#[]⟩ : ByteArray), 1)))
set_option maxHeartbeats 8000000 in
set_option maxRecDepth 100000 in
theorem impl_MirrorFolds.calls (a0 : ByteArray) (r1 : ByteArray) (r2 : Int) (w : World) (h : impl_MirrorFolds.f a0 = some (r1, r2)) :
    Calls Tryz.prog 8 #[.string a0] w fun e w' => e = .returned (.tuple #[.string r1, .int .i64 r2]) ∧ Below w.heap.size w w' := by
  have HB := Aside0.mk (Below.refl w.heap.size w)
  have H : ((impl_IsFolds.f a0).bind fun t127 => (if t127 = true then ((impl_mirrored.f a0).bind fun t128 => (some (t128, 0))) else (some ((⟨#[]⟩ : ByteArray), 1)))) = some (r1, r2) := h
  clear h
  replace H := Option.bind_eq_some_iff.mp H
  obtain ⟨t127, A20, H⟩ := H
  replace H : (if t127 = true then ((impl_mirrored.f a0).bind fun t128 => (some (t128, 0))) else (some ((⟨#[]⟩ : ByteArray), 1))) = some (r1, r2) := H
  have A2 := Aside0.mk A20
  clear A20
  by_cases c3 : t127 = true
  · subst c3
    have H1 : ((impl_mirrored.f a0).bind fun t128 => (some (t128, 0))) = some (r1, r2) := by rw [if_pos rfl] at H; exact H
    clear H
    have H := H1
    clear H1
    replace H := Option.bind_eq_some_iff.mp H
    obtain ⟨t128, A40, H⟩ := H
    replace H : (some (t128, 0)) = some (r1, r2) := H
    have A4 := Aside0.mk A40
    clear A40
    simp only [Option.some.injEq, Prod.mk.injEq] at H
    obtain ⟨rfl, rfl⟩ := H
    go_enter Tryz.func8, Tryz.ntmps8
    go_wp2_with (first | ((with_reducible refine gate_callee (f := 21) rfl ?_); refine goesL_ (some 5) rfl rfl Tryz.func21 (by kernel_rfl) rfl #[.string a0] rfl (by (try simp only [List.map_toArray, List.map_cons, List.map_nil]); first | done | rfl | (simp only [List.length_drop, List.length_take]; rfl)) ?_; (with_reducible refine (impl_IsFolds.calls a0 true _ A2.out).mono ?_); rintro e w5 ⟨rfl, hb⟩; refine ⟨_, rfl, ?_⟩; have n0_ := Aside0.mk (below_step (by repeat (first | (with_reducible first | exact HB.out | apply below_alloc | apply pw_below_drewN | apply below_drew1) | exact HB.out)) hb); clear HB; have HB := n0_; clear n0_; (try clear hb); (try clear hb2); (try clear hk); (try clear hi)) | ((with_reducible refine gate_callee (f := 22) rfl ?_); refine goesL_ (some 8) rfl rfl Tryz.func22 (by kernel_rfl) rfl #[.string a0] rfl (by (try simp only [List.map_toArray, List.map_cons, List.map_nil]); first | done | rfl | (simp only [List.length_drop, List.length_take]; rfl)) ?_; (with_reducible refine (impl_mirrored.calls a0 t128 _ A4.out).mono ?_); rintro e w6 ⟨rfl, hb⟩; refine ⟨_, rfl, ?_⟩; have n0_ := Aside0.mk (below_step (by repeat (first | (with_reducible first | exact HB.out | apply below_alloc | apply pw_below_drewN | apply below_drew1) | exact HB.out)) hb); clear HB; have HB := n0_; clear n0_; (try clear hb); (try clear hb2); (try clear hk); (try clear hi)))
    go_ret2
    exact ⟨by first | rfl | (simp only [Go.IntWalk.i64_left]; first | done | rfl) | (simp [errW_none, errW_some] <;> rfl) | (simp [*, errW_none, errW_some] <;> rfl), by repeat (first | (with_reducible first | exact HB.out | apply below_alloc | apply pw_below_drewN | apply below_drew1) | exact HB.out)⟩
  · replace c3 := Bool.eq_false_iff.mpr c3
    subst c3
    have H1 : (some ((⟨#[]⟩ : ByteArray), 1)) = some (r1, r2) := by rw [if_neg (show ¬ (false = true) by decide)] at H; exact H
    clear H
    have H := H1
    clear H1
    simp only [Option.some.injEq, Prod.mk.injEq] at H
    obtain ⟨rfl, rfl⟩ := H
    go_enter Tryz.func8, Tryz.ntmps8
    go_wp2_with (first | ((with_reducible refine gate_callee (f := 21) rfl ?_); refine goesL_ (some 5) rfl rfl Tryz.func21 (by kernel_rfl) rfl #[.string a0] rfl (by (try simp only [List.map_toArray, List.map_cons, List.map_nil]); first | done | rfl | (simp only [List.length_drop, List.length_take]; rfl)) ?_; (with_reducible refine (impl_IsFolds.calls a0 false _ A2.out).mono ?_); rintro e w7 ⟨rfl, hb⟩; refine ⟨_, rfl, ?_⟩; have n0_ := Aside0.mk (below_step (by repeat (first | (with_reducible first | exact HB.out | apply below_alloc | apply pw_below_drewN | apply below_drew1) | exact HB.out)) hb); clear HB; have HB := n0_; clear n0_; (try clear hb); (try clear hb2); (try clear hk); (try clear hi)))
    go_ret2
    exact ⟨by first | rfl | (simp only [Go.IntWalk.i64_left]; first | done | rfl) | (simp [errW_none, errW_some] <;> rfl) | (simp [*, errW_none, errW_some] <;> rfl), by repeat (first | (with_reducible first | exact HB.out | apply below_alloc | apply pw_below_drewN | apply below_drew1) | exact HB.out)⟩

/-! ### spec_IsFolds: function 23 -/
def spec_IsFolds.l0 : Nat → ByteArray → Int → Option (Bool)
  | 0, _, _ => none
  | k + 1, x0, x3 => if x3 < (x0.size : Int) then (if 0 ≤ x3 then (if (bt x0 x3) = 76 then (spec_IsFolds.l0 k x0 (wrap64 (x3 + 1))) else (if (bt x0 x3) = 82 then (spec_IsFolds.l0 k x0 (wrap64 (x3 + 1))) else (some false))) else (none)) else (some (decide ((x0.size : Int) ≤ 6)))
def spec_IsFolds.f (k : Nat) (a0 : ByteArray) : Option (Bool) := spec_IsFolds.l0 k a0 0
theorem spec_IsFolds.mono_l : ∀ k, (∀ y0 y1, LeO (spec_IsFolds.l0 k y0 y1) (spec_IsFolds.l0 (k + 1) y0 y1))
  | 0 => fun _ _ r h => by simp [spec_IsFolds.l0] at h
  | k + 1 => by
    have ih0 := spec_IsFolds.mono_l k
    · intro y0 y1
      unfold spec_IsFolds.l0
      repeat' first
      | (with_reducible exact ih0 _ _)
      | (with_reducible exact LeO.refl _)
      | (with_reducible exact LeO.none _)
      | (with_reducible refine LeO.ite ?_ ?_)
      | (with_reducible refine LeO.bind ?_ (fun _ => ?_))
      | exact ih0 _ _
      | exact LeO.none _
      | refine LeO.ite ?_ ?_
      | refine LeO.bind ?_ (fun _ => ?_)
theorem spec_IsFolds.mono : ∀ a0 k, LeO (spec_IsFolds.f k a0) (spec_IsFolds.f (k + 1) a0) := by
  intro a0 k
  have ih0 := spec_IsFolds.mono_l k
  unfold spec_IsFolds.f
  repeat' first
      | (with_reducible exact ih0 _ _)
      | (with_reducible exact LeO.refl _)
      | (with_reducible exact LeO.none _)
      | (with_reducible refine LeO.ite ?_ ?_)
      | (with_reducible refine LeO.bind ?_ (fun _ => ?_))
      | exact ih0 _ _
      | exact LeO.none _
      | refine LeO.ite ?_ ?_
      | refine LeO.bind ?_ (fun _ => ?_)
set_option maxHeartbeats 8000000 in
set_option maxRecDepth 100000 in
theorem spec_IsFolds.calls (k : Nat) (a0 : ByteArray) (r : Bool) (w : World) (h : spec_IsFolds.f k a0 = some r) :
    Calls Tryz.prog 23 #[.string a0] w fun e w' => e = .returned (.bool r) ∧ Drawn0 w w' := by
  have H : (spec_IsFolds.l0 k a0 0) = some r := h
  clear h
  have H' := Aside0.mk H
  clear H
  go_enter Tryz.func23, Tryz.ntmps23
  go_wp2
  go_loopg [3] k (fun kq v3 w' => ∃ (x3_1 : Int), v3 = .int .i64 x3_1 ∧ Aside0 (spec_IsFolds.l0 kq a0 x3_1 = some r) ∧ Aside0 (kq ≤ k) ∧ Drawn0 w w')
  case atStart => exact ⟨(0), (by first | rfl | (simp; done) | (simp [*]; done)), H', ⟨Nat.le_refl _⟩, by repeat (first | exact Drawn0.refl _ | apply Drawn0.step)⟩
  case round =>
    clear H'
    obtain ⟨x3_1, rfl, HA, HK1, ⟨m1, rfl⟩⟩ := hrel
    cases gk with
    | zero => exact absurd HA.out (by simp [spec_IsFolds.l0])
    | succ k1 =>
      have H := HA.out
      clear HA
      simp only [spec_IsFolds.l0] at H
      by_cases c2 : x3_1 < (a0.size : Int)
      · rw [if_pos c2] at H
        have c2b0 : decide (x3_1 < (a0.size : Int)) = true := decide_eq_true c2
        clear c2
        by_cases c3 : 0 ≤ x3_1
        · rw [if_pos c3] at H
          have c3b0 : decide (0 ≤ x3_1) = true := decide_eq_true c3
          clear c3
          by_cases c5 : (bt a0 x3_1) = 76
          · rw [if_pos c5] at H
            have c5b0 : ((bt a0 x3_1) == 76) = true := beq_iff_eq.mpr c5
            have c5b1 : ((bt a0 x3_1) != 76) = false := bne_eq_false_iff_eq.mpr c5
            clear c5
            have H' := Aside0.mk H
            clear H
            have p4 : 0 ≤ (x3_1 : Int) := of_decide_eq_true (by first | (with_reducible assumption) | assumption)
            have q4 : x3_1 < (a0.size : Int) := of_decide_eq_true (by first | (with_reducible assumption) | assumption)
            have hx4 := bt_at a0 x3_1
            replace p4 := eq_true p4
            replace q4 := eq_true q4
            go_wp2
            go_roundg k1
            case measure => have := HK1.out; omega
            case rel => exact ⟨(wrap64 (x3_1 + 1)), (by first | rfl | (simp; done) | (simp [*]; done)), H', ⟨by have := HK1.out; omega⟩, by repeat (first | exact Drawn0.refl _ | apply Drawn0.step)⟩
          · rw [if_neg c5] at H
            have c5b0 : ((bt a0 x3_1) == 76) = false := beq_eq_false_iff_ne.mpr c5
            have c5b1 : ((bt a0 x3_1) != 76) = true := bne_iff_ne.mpr c5
            by_cases c7 : (bt a0 x3_1) = 82
            · rw [if_pos c7] at H
              have c7b0 : ((bt a0 x3_1) == 82) = true := beq_iff_eq.mpr c7
              have c7b1 : ((bt a0 x3_1) != 82) = false := bne_eq_false_iff_eq.mpr c7
              clear c7
              have H' := Aside0.mk H
              clear H
              have p4 : 0 ≤ (x3_1 : Int) := of_decide_eq_true (by first | (with_reducible assumption) | assumption)
              have q4 : x3_1 < (a0.size : Int) := of_decide_eq_true (by first | (with_reducible assumption) | assumption)
              have hx4 := bt_at a0 x3_1
              replace p4 := eq_true p4
              replace q4 := eq_true q4
              have p6 : 0 ≤ (x3_1 : Int) := of_decide_eq_true (by first | (with_reducible assumption) | assumption)
              have q6 : x3_1 < (a0.size : Int) := of_decide_eq_true (by first | (with_reducible assumption) | assumption)
              have hx6 := bt_at a0 x3_1
              replace p6 := eq_true p6
              replace q6 := eq_true q6
              go_wp2
              go_roundg k1
              case measure => have := HK1.out; omega
              case rel => exact ⟨(wrap64 (x3_1 + 1)), (by first | rfl | (simp; done) | (simp [*]; done)), H', ⟨by have := HK1.out; omega⟩, by repeat (first | exact Drawn0.refl _ | apply Drawn0.step)⟩
            · rw [if_neg c7] at H
              have c7b0 : ((bt a0 x3_1) == 82) = false := beq_eq_false_iff_ne.mpr c7
              have c7b1 : ((bt a0 x3_1) != 82) = true := bne_iff_ne.mpr c7
              obtain rfl := Option.some.inj H
              have p4 : 0 ≤ (x3_1 : Int) := of_decide_eq_true (by first | (with_reducible assumption) | assumption)
              have q4 : x3_1 < (a0.size : Int) := of_decide_eq_true (by first | (with_reducible assumption) | assumption)
              have hx4 := bt_at a0 x3_1
              replace p4 := eq_true p4
              replace q4 := eq_true q4
              have p6 : 0 ≤ (x3_1 : Int) := of_decide_eq_true (by first | (with_reducible assumption) | assumption)
              have q6 : x3_1 < (a0.size : Int) := of_decide_eq_true (by first | (with_reducible assumption) | assumption)
              have hx6 := bt_at a0 x3_1
              replace p6 := eq_true p6
              replace q6 := eq_true q6
              go_wp2
              go_ret
              exact ⟨by first | rfl | (simp only [Go.IntWalk.i64_left]; first | done | rfl) | (simp; done) | (simp [*]; done), by repeat (first | exact Drawn0.refl _ | apply Drawn0.step)⟩
        · rw [if_neg c3] at H
          exact absurd H (by simp)
      · rw [if_neg c2] at H
        have c2b0 : decide (x3_1 < (a0.size : Int)) = false := decide_eq_false c2
        clear c2
        obtain rfl := Option.some.inj H
        go_wp2
        go_ret
        exact ⟨by first | rfl | (simp only [Go.IntWalk.i64_left]; first | done | rfl) | (simp; done) | (simp [*]; done), by repeat (first | exact Drawn0.refl _ | apply Drawn0.step)⟩

/-! ### spec_MirrorFolds: function 9 -/
def spec_MirrorFolds.l0 : Nat → ByteArray → List Int → Int → Option (ByteArray × Int)
  | 0, _, _, _ => none
  | k + 1, x0, x4, x5 => if x5 < (x0.size : Int) then (if 0 ≤ x5 then (if (bt x0 x5) = 76 then (if x4.length < 140737488355328 then (spec_MirrorFolds.l0 k x0 (x4 ++ [82]) (wrap64 (x5 + 1))) else (none)) else (if x4.length < 140737488355328 then (spec_MirrorFolds.l0 k x0 (x4 ++ [76]) (wrap64 (x5 + 1))) else (none))) else (none)) else (some (strOfNums x4, 0))
def spec_MirrorFolds.f (k : Nat) (a0 : ByteArray) : Option (ByteArray × Int) := (spec_IsFolds.f k a0).bind fun t129 => (if t129 = true then (spec_MirrorFolds.l0 k a0 (([] : List Int)) 0) else (some ((⟨#[]⟩ : ByteArray), 1)))
theorem spec_MirrorFolds.mono_l : ∀ k, (∀ y0 y1 y2, LeO (spec_MirrorFolds.l0 k y0 y1 y2) (spec_MirrorFolds.l0 (k + 1) y0 y1 y2))
  | 0 => fun _ _ _ r h => by simp [spec_MirrorFolds.l0] at h
  | k + 1 => by
    have ih0 := spec_MirrorFolds.mono_l k
    · intro y0 y1 y2
      unfold spec_MirrorFolds.l0
      repeat' first
      | (with_reducible exact ih0 _ _ _)
      | (with_reducible exact spec_IsFolds.mono _ _)
      | (with_reducible exact LeO.refl _)
      | (with_reducible exact LeO.none _)
      | (with_reducible refine LeO.ite ?_ ?_)
      | (with_reducible refine LeO.bind ?_ (fun _ => ?_))
      | exact ih0 _ _ _
      | exact spec_IsFolds.mono _ _
      | exact LeO.none _
      | refine LeO.ite ?_ ?_
      | refine LeO.bind ?_ (fun _ => ?_)
theorem spec_MirrorFolds.mono : ∀ a0 k, LeO (spec_MirrorFolds.f k a0) (spec_MirrorFolds.f (k + 1) a0) := by
  intro a0 k
  have ih0 := spec_MirrorFolds.mono_l k
  unfold spec_MirrorFolds.f
  repeat' first
      | (with_reducible exact ih0 _ _ _)
      | (with_reducible exact spec_IsFolds.mono _ _)
      | (with_reducible exact LeO.refl _)
      | (with_reducible exact LeO.none _)
      | (with_reducible refine LeO.ite ?_ ?_)
      | (with_reducible refine LeO.bind ?_ (fun _ => ?_))
      | exact ih0 _ _ _
      | exact spec_IsFolds.mono _ _
      | exact LeO.none _
      | refine LeO.ite ?_ ?_
      | refine LeO.bind ?_ (fun _ => ?_)
set_option maxHeartbeats 8000000 in
set_option maxRecDepth 100000 in
theorem spec_MirrorFolds.calls (k : Nat) (a0 : ByteArray) (r1 : ByteArray) (r2 : Int) (w : World) (h : spec_MirrorFolds.f k a0 = some (r1, r2)) :
    Calls Tryz.prog 9 #[.string a0] w fun e w' => e = .returned (.tuple #[.string r1, .int .i64 r2]) ∧ Below w.heap.size w w' := by
  have HB := Aside0.mk (Below.refl w.heap.size w)
  have H : ((spec_IsFolds.f k a0).bind fun t129 => (if t129 = true then (spec_MirrorFolds.l0 k a0 (([] : List Int)) 0) else (some ((⟨#[]⟩ : ByteArray), 1)))) = some (r1, r2) := h
  clear h
  replace H := Option.bind_eq_some_iff.mp H
  obtain ⟨t129, A20, H⟩ := H
  replace H : (if t129 = true then (spec_MirrorFolds.l0 k a0 (([] : List Int)) 0) else (some ((⟨#[]⟩ : ByteArray), 1))) = some (r1, r2) := H
  have A2 := Aside0.mk A20
  clear A20
  by_cases c3 : t129 = true
  · subst c3
    have H1 : (spec_MirrorFolds.l0 k a0 (([] : List Int)) 0) = some (r1, r2) := by rw [if_pos rfl] at H; exact H
    clear H
    have H := H1
    clear H1
    obtain ⟨y130, hy130⟩ : ∃ y_ : List Int, y_ = (([] : List Int)) := ⟨_, rfl⟩
    replace H : (spec_MirrorFolds.l0 k a0 y130 0) = some (r1, r2) := by first | (rw [hy130]; with_reducible exact H) | (have H2_ := (Option.bind_some _ _).symm.trans H; rw [hy130]; with_reducible exact H2_) | (have H2_ := (Option.bind_some _ _).symm.trans H; with_reducible exact H2_) | with_reducible exact H | (rw [hy130]; exact H) | exact H
    have Ny130 := Aside0.mk hy130
    clear hy130
    have H' := Aside0.mk H
    clear H
    go_enter Tryz.func9, Tryz.ntmps9
    go_wp2_with (first | ((with_reducible refine gate_callee (f := 23) rfl ?_); refine goesL_ (some 7) rfl rfl Tryz.func23 (by kernel_rfl) rfl #[.string a0] rfl (by (try simp only [List.map_toArray, List.map_cons, List.map_nil]); first | done | rfl | (simp only [List.length_drop, List.length_take]; rfl)) ?_; (with_reducible refine (spec_IsFolds.calls k a0 true _ A2.out).mono ?_); rintro e w' ⟨rfl, ⟨nd, rfl⟩⟩; refine ⟨_, rfl, ?_⟩) | ((with_reducible refine gate_dst (N := 9) rfl ?_); refine Kd.R_lit (Kd.int .u8) _ 5 ?hg (N := 9) ?hd (xs := ([] : List Int)) (inner := []) (ok := fun _ => True) (okp := fun _ => True) ?hr ?hp (fun _ hk => hk) trivial (Below.refl _ _) (Nat.le_refl _) (by simp) ?_; (case hd => rfl); (case hg => rfl); (case hr => first | (go_simp; done) | (go_simp; rfl)); (case hp => exact (Reps.none _ _)); intro v131 w4 ho5 hb hg_ hnew_; clear hg_ hnew_; (first | rw [← Ny130.out] at ho5 | (simp only [Int.reduceToNat] at ho5; rw [← Ny130.out] at ho5)); have n0_ := Aside0.mk (Kd.R_lower ho5 (below_size (by repeat (first | (with_reducible first | exact HB.out | apply below_alloc | apply pw_below_drewN | apply below_drew1) | exact HB.out)))); have n1_ := Aside0.mk (below_step (by repeat (first | (with_reducible first | exact HB.out | apply below_alloc | apply pw_below_drewN | apply below_drew1) | exact HB.out)) hb); clear HB; have HO132 := n0_; have HB := n1_; clear n0_ n1_; clear hb ho5))
    go_loopg [4, 5] k (fun kq v4 v5 w' => ∃ (x4_1 : List Int) (x5_1 : Int), v5 = .int .i64 x5_1 ∧ Aside0 (spec_MirrorFolds.l0 kq a0 x4_1 x5_1 = some (r1, r2)) ∧ Aside0 (kq ≤ k) ∧ Aside0 (Kd.R (Kd.int .u8) 5 w' w.heap.size (fun _ => True) v4 x4_1) ∧ Aside0 (Below w.heap.size w w'))
    case atStart => exact ⟨(y130), (0), (by first | rfl | (simp; done) | (simp [*]; done)), H', ⟨Nat.le_refl _⟩, ⟨by (with_reducible repeat (first | apply Kd.R_alloc | apply Kd.R_drewN | apply Kd.R_drew)); exact HO132.out⟩, ⟨by repeat (first | (with_reducible first | exact HB.out | apply below_alloc | apply pw_below_drewN | apply below_drew1) | exact HB.out)⟩⟩
    case round =>
      clear H'
      try clear c2
      try clear p2
      try clear c3
      obtain ⟨x4_1, x5_1, rfl, HA, HK1, HO_4, HB⟩ := hrel
      cases gk with
      | zero => exact absurd HA.out (by simp [spec_MirrorFolds.l0])
      | succ k1 =>
        have H := HA.out
        clear HA
        simp only [spec_MirrorFolds.l0] at H
        by_cases c6 : x5_1 < (a0.size : Int)
        · rw [if_pos c6] at H
          have c6b0 : decide (x5_1 < (a0.size : Int)) = true := decide_eq_true c6
          clear c6
          by_cases c7 : 0 ≤ x5_1
          · rw [if_pos c7] at H
            have c7b0 : decide (0 ≤ x5_1) = true := decide_eq_true c7
            clear c7
            by_cases c9 : (bt a0 x5_1) = 76
            · rw [if_pos c9] at H
              have c9b0 : ((bt a0 x5_1) == 76) = true := beq_iff_eq.mpr c9
              have c9b1 : ((bt a0 x5_1) != 76) = false := bne_eq_false_iff_eq.mpr c9
              clear c9
              by_cases c10 : x4_1.length < 140737488355328
              · rw [if_pos c10] at H
                have LMc10 := Aside0.mk c10
                clear c10
                obtain ⟨y133, hy133⟩ : ∃ y_ : List Int, y_ = (x4_1 ++ [82]) := ⟨_, rfl⟩
                replace H : (spec_MirrorFolds.l0 k1 a0 y133 (wrap64 (x5_1 + 1))) = some (r1, r2) := by first | (rw [hy133]; with_reducible exact H) | (have H2_ := (Option.bind_some _ _).symm.trans H; rw [hy133]; with_reducible exact H2_) | (have H2_ := (Option.bind_some _ _).symm.trans H; with_reducible exact H2_) | with_reducible exact H | (rw [hy133]; exact H) | exact H
                have Ny133 := Aside0.mk hy133
                clear hy133
                have H' := Aside0.mk H
                clear H
                have p8 : 0 ≤ (x5_1 : Int) := of_decide_eq_true (by first | (with_reducible assumption) | assumption)
                have q8 : x5_1 < (a0.size : Int) := of_decide_eq_true (by first | (with_reducible assumption) | assumption)
                have hx8 := bt_at a0 x5_1
                replace p8 := eq_true p8
                replace q8 := eq_true q8
                go_wp2_with (first | ((with_reducible refine gate_builtin (b := .append) (xs := #[.tmp 20, .tmp 21]) rfl ?_); at_builtin; refine Kd.R_append (Kd.int .u8) (w0 := w) w.heap.size rfl (.tmp 20) (.tmp 21) 22 5 (.int .u8 0) 1 rfl Tryz.underlying22 info5 rfl (by decide) (by omega) u4 x4_1 82 [.int .u8 82] (fun _ => True) (fun _ => False) rfl rfl ?aP (fun _ hk => hk.elim) ?aF ?aO ?aB ?aS ?aL ?_; (case aP => exact rfl); (case aB => exact (by repeat (first | (with_reducible first | exact HB.out | apply below_alloc | apply pw_below_drewN | apply below_drew1) | exact HB.out))); (case aF => exact (fun _ _ => trivial)); (case aO => exact (by (with_reducible repeat (first | apply Kd.R_alloc | apply Kd.R_drewN | apply Kd.R_drew)); exact HO_4.out)); (case aS => exact (below_size (by repeat (first | (with_reducible first | exact HB.out | apply below_alloc | apply pw_below_drewN | apply below_drew1) | exact HB.out)))); (case aL => have := LMc10.out; omega); intro v134 w11 ho hb hg hat; rw [← Ny133.out] at ho; have n0_ := Aside0.mk (hb); have n1_ := Aside0.mk (ho); clear HB; clear HO_4; have HB := n0_; have HO135 := n1_; clear n0_ n1_; clear ho hb hg hat))
                go_roundg k1
                case measure => have := HK1.out; omega
                case rel => exact ⟨(y133), (wrap64 (x5_1 + 1)), (by first | rfl | (simp; done) | (simp [*]; done)), H', ⟨by have := HK1.out; omega⟩, ⟨by (with_reducible repeat (first | apply Kd.R_alloc | apply Kd.R_drewN | apply Kd.R_drew)); exact HO135.out⟩, ⟨by repeat (first | (with_reducible first | exact HB.out | apply below_alloc | apply pw_below_drewN | apply below_drew1) | exact HB.out)⟩⟩
              · rw [if_neg c10] at H
                exact absurd H (by simp)
            · rw [if_neg c9] at H
              have c9b0 : ((bt a0 x5_1) == 76) = false := beq_eq_false_iff_ne.mpr c9
              have c9b1 : ((bt a0 x5_1) != 76) = true := bne_iff_ne.mpr c9
              by_cases c12 : x4_1.length < 140737488355328
              · rw [if_pos c12] at H
                have LMc12 := Aside0.mk c12
                clear c12
                obtain ⟨y136, hy136⟩ : ∃ y_ : List Int, y_ = (x4_1 ++ [76]) := ⟨_, rfl⟩
                replace H : (spec_MirrorFolds.l0 k1 a0 y136 (wrap64 (x5_1 + 1))) = some (r1, r2) := by first | (rw [hy136]; with_reducible exact H) | (have H2_ := (Option.bind_some _ _).symm.trans H; rw [hy136]; with_reducible exact H2_) | (have H2_ := (Option.bind_some _ _).symm.trans H; with_reducible exact H2_) | with_reducible exact H | (rw [hy136]; exact H) | exact H
                have Ny136 := Aside0.mk hy136
                clear hy136
                have H' := Aside0.mk H
                clear H
                have p8 : 0 ≤ (x5_1 : Int) := of_decide_eq_true (by first | (with_reducible assumption) | assumption)
                have q8 : x5_1 < (a0.size : Int) := of_decide_eq_true (by first | (with_reducible assumption) | assumption)
                have hx8 := bt_at a0 x5_1
                replace p8 := eq_true p8
                replace q8 := eq_true q8
                go_wp2_with (first | ((with_reducible refine gate_builtin (b := .append) (xs := #[.tmp 23, .tmp 24]) rfl ?_); at_builtin; refine Kd.R_append (Kd.int .u8) (w0 := w) w.heap.size rfl (.tmp 23) (.tmp 24) 22 5 (.int .u8 0) 1 rfl Tryz.underlying22 info5 rfl (by decide) (by omega) u4 x4_1 76 [.int .u8 76] (fun _ => True) (fun _ => False) rfl rfl ?aP (fun _ hk => hk.elim) ?aF ?aO ?aB ?aS ?aL ?_; (case aP => exact rfl); (case aB => exact (by repeat (first | (with_reducible first | exact HB.out | apply below_alloc | apply pw_below_drewN | apply below_drew1) | exact HB.out))); (case aF => exact (fun _ _ => trivial)); (case aO => exact (by (with_reducible repeat (first | apply Kd.R_alloc | apply Kd.R_drewN | apply Kd.R_drew)); exact HO_4.out)); (case aS => exact (below_size (by repeat (first | (with_reducible first | exact HB.out | apply below_alloc | apply pw_below_drewN | apply below_drew1) | exact HB.out)))); (case aL => have := LMc12.out; omega); intro v137 w13 ho hb hg hat; rw [← Ny136.out] at ho; have n0_ := Aside0.mk (hb); have n1_ := Aside0.mk (ho); clear HB; clear HO_4; have HB := n0_; have HO138 := n1_; clear n0_ n1_; clear ho hb hg hat))
                go_roundg k1
                case measure => have := HK1.out; omega
                case rel => exact ⟨(y136), (wrap64 (x5_1 + 1)), (by first | rfl | (simp; done) | (simp [*]; done)), H', ⟨by have := HK1.out; omega⟩, ⟨by (with_reducible repeat (first | apply Kd.R_alloc | apply Kd.R_drewN | apply Kd.R_drew)); exact HO138.out⟩, ⟨by repeat (first | (with_reducible first | exact HB.out | apply below_alloc | apply pw_below_drewN | apply below_drew1) | exact HB.out)⟩⟩
              · rw [if_neg c12] at H
                exact absurd H (by simp)
          · rw [if_neg c7] at H
            exact absurd H (by simp)
        · rw [if_neg c6] at H
          have c6b0 : decide (x5_1 < (a0.size : Int)) = false := decide_eq_false c6
          clear c6
          simp only [Option.some.injEq, Prod.mk.injEq] at H
          obtain ⟨rfl, rfl⟩ := H
          have hcv14 := own_string (P := Tryz.prog) Tryz.underlying22 Tryz.underlying5 Tryz.underlying9 (Kd.own_of_R HO_4.out)
          go_wp2
          go_ret2
          exact ⟨by first | rfl | (simp only [Go.IntWalk.i64_left]; first | done | rfl) | (simp [errW_none, errW_some] <;> rfl) | (simp [*, errW_none, errW_some] <;> rfl), by repeat (first | (with_reducible first | exact HB.out | apply below_alloc | apply pw_below_drewN | apply below_drew1) | exact HB.out)⟩
  · replace c3 := Bool.eq_false_iff.mpr c3
    subst c3
    have H1 : (some ((⟨#[]⟩ : ByteArray), 1)) = some (r1, r2) := by rw [if_neg (show ¬ (false = true) by decide)] at H; exact H
    clear H
    have H := H1
    clear H1
    simp only [Option.some.injEq, Prod.mk.injEq] at H
    obtain ⟨rfl, rfl⟩ := H
    go_enter Tryz.func9, Tryz.ntmps9
    go_wp2_with (first | ((with_reducible refine gate_callee (f := 23) rfl ?_); refine goesL_ (some 7) rfl rfl Tryz.func23 (by kernel_rfl) rfl #[.string a0] rfl (by (try simp only [List.map_toArray, List.map_cons, List.map_nil]); first | done | rfl | (simp only [List.length_drop, List.length_take]; rfl)) ?_; (with_reducible refine (spec_IsFolds.calls k a0 false _ A2.out).mono ?_); rintro e w' ⟨rfl, ⟨nd, rfl⟩⟩; refine ⟨_, rfl, ?_⟩))
    go_ret2
    exact ⟨by first | rfl | (simp only [Go.IntWalk.i64_left]; first | done | rfl) | (simp [errW_none, errW_some] <;> rfl) | (simp [*, errW_none, errW_some] <;> rfl), by repeat (first | (with_reducible first | exact HB.out | apply below_alloc | apply pw_below_drewN | apply below_drew1) | exact HB.out)⟩

end Go.Proofs.YtdpmpoakjhhaaaaGreatDoor.QFnMirroredStrips
