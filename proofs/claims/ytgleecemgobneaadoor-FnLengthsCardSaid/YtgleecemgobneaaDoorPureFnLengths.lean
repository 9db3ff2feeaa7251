/- The pure statement of FnLengths: for every input that the row lets in, the law's Lean function answers true; no further condition. -/
import Derived.Test.YtgleecemgobneaaDoorQFnLengthsx5
set_option linter.unusedVariables false
set_option linter.unusedSimpArgs false
namespace Go.Proofs.YtgleecemgobneaaDoor.Pure
open Go.RowKit Go.Proofs.YtgleecemgobneaaDoor.QFnLengths Go.Proofs.YtgleecemgobneaaDoorW.PrintWords Go.Proofs.YtgleecemgobneaaDoorW.PrintLast

theorem w64 {x : Int} (h0 : -9223372036854775808 ≤ x) (h1 : x ≤ 9223372036854775807) : wrap64 x = x := by unfold wrap64; omega
theorem wz : wrap64 0 = 0 := w64 (by omega) (by omega)
theorem w64_range (x : Int) : -9223372036854775808 ≤ wrap64 x ∧ wrap64 x ≤ 9223372036854775807 := by unfold wrap64; omega
theorem wf64 {x : Int} (h : (Lit.int .i64 x).wf = true) : -9223372036854775808 ≤ x ∧ x ≤ 9223372036854775807 := by
  have h' : (decide (IntKind.i64.min ≤ x) && decide (x ≤ IntKind.i64.max)) = true := h
  simp only [Bool.and_eq_true, decide_eq_true_eq] at h'
  exact h'
theorem wf8 {x : Int} (h : (Lit.int .u8 x).wf = true) : 0 ≤ x ∧ x ≤ 255 := by
  have h' : (decide (IntKind.u8.min ≤ x) && decide (x ≤ IntKind.u8.max)) = true := h
  simp only [Bool.and_eq_true, decide_eq_true_eq] at h'
  exact h'
theorem rd_get {xs : List Int} {i : Nat} (h : i < xs.length) : rd xs (i : Int) = xs[i] := by
  simp [rd, List.getD_eq_getElem?_getD, h]
theorem rd_nat (xs : List Int) (i : Nat) : rd xs (i : Int) = xs.getD i 0 := by simp [rd]
theorem rd_mem {xs : List Int} {i : Nat} (h : i < xs.length) : rd xs (i : Int) ∈ xs := by rw [rd_get h]; exact List.getElem_mem h
theorem rd_ext {xs ys : List Int} (hl : xs.length = ys.length) (h : ∀ i : Nat, i < xs.length → rd xs (i : Int) = rd ys (i : Int)) : xs = ys := by
  apply List.ext_getElem hl
  intro i h1 h2
  have := h i h1
  rwa [rd_get h1, rd_get h2] at this
theorem rd_set {xs : List Int} {i j : Nat} {v : Int} (hi : i < xs.length) : rd (xs.set i v) (j : Int) = if i = j then v else rd xs (j : Int) := by
  simp only [rd_nat, List.getD_eq_getElem?_getD, List.getElem?_set]
  by_cases h : i = j
  · subst h; simp [hi]
  · simp [h]
theorem rd_append_left {xs ys : List Int} {j : Nat} (h : j < xs.length) : rd (xs ++ ys) (j : Int) = rd xs (j : Int) := by
  simp only [rd_nat, List.getD_eq_getElem?_getD, List.getElem?_append_left h]
theorem rd_append_at {xs : List Int} {v : Int} : rd (xs ++ [v]) (xs.length : Int) = v := by
  simp [rd_nat, List.getD_eq_getElem?_getD]
theorem rd_take {xs : List Int} {i j : Nat} (h : j < i) : rd (xs.take i) (j : Int) = rd xs (j : Int) := by
  simp [rd_nat, List.getD_eq_getElem?_getD, List.getElem?_take, h]
theorem rd_drop {xs : List Int} {i j : Nat} : rd (xs.drop i) (j : Int) = rd xs ((i + j : Nat) : Int) := by
  simp only [rd_nat, List.getD_eq_getElem?_getD, List.getElem?_drop]
theorem toNat_cast (i : Nat) : ((i : Nat) : Int).toNat = i := Int.toNat_natCast i
theorem drop_cons {xs : List Int} {i : Nat} (h : i < xs.length) : xs.drop i = rd xs (i : Int) :: xs.drop (i + 1) := by
  rw [rd_get h]; exact List.drop_eq_getElem_cons h
theorem Ev_ite_t {α : Type} {c : Prop} [Decidable c] {f g : Nat → Option α} {r : α} (h : c) (k : Ev f r) : Ev (fun n => if c then f n else g n) r :=
  Ev.congr (fun _ => if_pos h) k
theorem Ev_ite_f {α : Type} {c : Prop} [Decidable c] {f g : Nat → Option α} {r : α} (h : ¬ c) (k : Ev g r) : Ev (fun n => if c then f n else g n) r :=
  Ev.congr (fun _ => if_neg h) k
theorem w64n (i : Nat) (h : i < 9223372036854775807) : wrap64 ((i : Int) + 1) = ((i + 1 : Nat) : Int) := by
  rw [w64 (by omega) (by omega)]; rfl
theorem wrap_add_wrap (a b : Int) : wrap64 (wrap64 a + b) = wrap64 (a + b) := by unfold wrap64; omega
theorem wrap_add_wrap' (a b : Int) : wrap64 (a + wrap64 b) = wrap64 (a + b) := by unfold wrap64; omega
theorem EvE_bind {α β : Type} {g : Nat → Option α} {f : Nat → α → Option β} {a : α} (h : Ev g a) (k : ∃ r, Ev (fun n => f n a) r) : ∃ r, Ev (fun n => (g n).bind (f n)) r := by
  obtain ⟨r, k⟩ := k
  exact ⟨r, Ev.bind h k⟩
theorem EvE_now {α : Type} (a : α) : ∃ r, Ev (fun _ : Nat => some a) r := ⟨a, Ev.now a⟩
theorem EvE_ite_t {α : Type} {c : Prop} [Decidable c] {f g : Nat → Option α} (h : c) (k : ∃ r, Ev f r) : ∃ r, Ev (fun n => if c then f n else g n) r := by
  obtain ⟨r, k⟩ := k
  exact ⟨r, Ev_ite_t h k⟩
theorem EvE_ite_f {α : Type} {c : Prop} [Decidable c] {f g : Nat → Option α} (h : ¬ c) (k : ∃ r, Ev g r) : ∃ r, Ev (fun n => if c then f n else g n) r := by
  obtain ⟨r, k⟩ := k
  exact ⟨r, Ev_ite_f h k⟩
theorem l01In_eq (n a b : Int) : spec_l01In.f n a b = some (decide (a ≤ n ∧ n ≤ b)) := by
  unfold spec_l01In.f
  by_cases h : n ≥ a
  · rw [if_pos h]; simp [show a ≤ n from h]
  · rw [if_neg h]; simp [show ¬ a ≤ n from h]
theorem inRange_eq (n a b : Int) : impl_inRange.f n a b = some (decide (a ≤ n ∧ n ≤ b)) := by
  unfold impl_inRange.f
  by_cases h : a ≤ n
  · rw [if_pos h]; simp [h]
  · rw [if_neg h]; simp [h]
def mkb (l : List UInt8) : ByteArray := ⟨l.toArray⟩
theorem mkb_list (l : List UInt8) : (mkb l).toList = l := by rw [ByteArray.toList_eq]; rfl
theorem mkb_size (l : List UInt8) : (mkb l).size = l.length := by show l.toArray.size = _; exact List.size_toArray
theorem mkb_append (a b : List UInt8) : mkb a ++ mkb b = mkb (a ++ b) := by
  apply ByteArray.ext
  rw [ByteArray.data_append]
  show a.toArray ++ b.toArray = (a ++ b).toArray
  simp
theorem mkb_of (s : ByteArray) : s = mkb s.data.toList := by
  apply ByteArray.ext
  show s.data = s.data.toList.toArray
  simp
def dgs (n : Nat) : List UInt8 := Go.Lib.decDigits n
theorem dgs_one {n : Nat} (h : n < 10) : dgs n = [UInt8.ofNat (48 + n)] := Go.Lib.decDigits_one h
theorem dgs_more {n : Nat} (h : ¬ n < 10) : dgs n = dgs (n / 10) ++ [UInt8.ofNat (48 + n % 10)] := by
  unfold dgs
  rw [Go.Lib.decDigits, dif_neg h]
theorem dgs_len (n : Nat) : 1 ≤ (dgs n).length ∧ (dgs n).length ≤ n + 1 := by
  induction n using Nat.strongRecOn with
  | ind n ih =>
    by_cases h : n < 10
    · rw [dgs_one h]; simp
    · rw [dgs_more h, List.length_append]
      have := ih (n / 10) (by omega)
      simp only [List.length_singleton]
      omega
theorem str_dig : ∀ d : Fin 10, (strOfNums [(wrap64 (48 + (d.val : Int))) % 256]).data.toList = [UInt8.ofNat (48 + d.val)] := by decide +kernel
theorem str_dig' (d : Nat) (h : d < 10) : strOfNums [(wrap64 (48 + (d : Int))) % 256] = mkb [UInt8.ofNat (48 + d)] := by
  have := str_dig ⟨d, h⟩
  rw [mkb_of (strOfNums [(wrap64 (48 + (d : Int))) % 256])]
  exact congrArg mkb this
theorem dec_ev (n : Nat) : n ≤ 9223372036854775807 → Ev (fun k => spec_l01Dec.f k (n : Int)) (mkb (dgs n)) := by
  induction n using Nat.strongRecOn with
  | ind n ih =>
    intro hn
    by_cases h : n < 10
    · refine Ev.step (f := fun _ => some (mkb (dgs n))) (fun k => ?_) (Ev.now _)
      rw [spec_l01Dec.f, if_pos (by omega), dgs_one h, str_dig' n h]
    · rw [dgs_more h]
      have e1 : wrap64 (Int.tdiv (n : Int) 10) = ((n / 10 : Nat) : Int) := by rw [Int.tdiv_eq_ediv_of_nonneg (by omega), w64 (by omega) (by omega)]; omega
      have e2 : Int.tmod (n : Int) 10 = ((n % 10 : Nat) : Int) := by rw [Int.tmod_eq_emod_of_nonneg (by omega)]; omega
      have hl := dgs_len (n / 10)
      refine Ev.step (f := fun k => (spec_l01Dec.f k ((n / 10 : Nat) : Int)).bind fun t => if t.size + (mkb [UInt8.ofNat (48 + n % 10)]).size ≤ 9223372036854775807 then some (t ++ mkb [UInt8.ofNat (48 + n % 10)]) else none) (fun k => ?_) ?_
      · rw [spec_l01Dec.f, if_neg (by omega), e1, e2]
        simp only [Option.bind_some]
        rw [str_dig' (n % 10) (by omega)]
      · refine Ev.bind (ih (n / 10) (by omega) (by omega)) ?_
        refine Ev_ite_t (by rw [mkb_size, mkb_size]; simp only [List.length_singleton]; omega) ?_
        rw [mkb_append]
        exact Ev.now _
theorem impl_dec (n : Nat) (hn : n ≤ 9223372036854775807) : impl_decimal.f (n : Int) = some (mkb (dgs n)) := by
  unfold impl_decimal.f
  rw [if_pos (by omega)]
  show some (mkb (Go.Lib.itoa (n : Int))) = _
  rw [Go.Lib.itoa_nonneg]
  rfl
def ltOf (n : Int) : ByteArray := if 0 ≤ n ∧ n ≤ 1000000000 then (mkb (dgs (n / 10).toNat) ++ (⟨#[46]⟩ : ByteArray)) ++ mkb (dgs (n % 10).toNat) else (⟨#[]⟩ : ByteArray)
theorem dgs_small (n : Nat) (h : n ≤ 1000000000) : (mkb (dgs n)).size ≤ 1000000001 := by
  rw [mkb_size]
  have := dgs_len n
  omega
theorem implLT_eq (n : Int) : impl_LengthText.f n = some (ltOf n) := by
  unfold impl_LengthText.f ltOf impl_isLength.f
  simp only [inRange_eq, Option.bind_some, decide_eq_true_eq]
  by_cases h : 0 ≤ n ∧ n ≤ 1000000000
  · rw [if_pos h, if_pos h]
    have e1 : wrap64 (Int.tdiv n 10) = (((n / 10).toNat : Nat) : Int) := by rw [Int.tdiv_eq_ediv_of_nonneg h.1, w64 (by omega) (by omega)]; omega
    have e2 : Int.tmod n 10 = (((n % 10).toNat : Nat) : Int) := by rw [Int.tmod_eq_emod_of_nonneg h.1]; omega
    have s1 := dgs_small (n / 10).toNat (by omega)
    have s2 := dgs_small (n % 10).toNat (by omega)
    rw [e1, e2, impl_dec _ (by omega)]
    simp only [Option.bind_some]
    rw [if_pos (by omega), impl_dec _ (by omega)]
    simp only [Option.bind_some]
    rw [if_pos]
    rw [ByteArray.size_append]
    show (mkb (dgs (n / 10).toNat)).size + 1 + _ ≤ _
    omega
  · rw [if_neg h, if_neg h]
def dval (l : List UInt8) : Nat := l.foldl (fun a c => 10 * a + (c.toNat - 48)) 0
theorem dval_app (l : List UInt8) (c : UInt8) : dval (l ++ [c]) = 10 * dval l + (c.toNat - 48) := by unfold dval; rw [List.foldl_append]; rfl
theorem dig_nat {d : Nat} (h : d < 10) : (UInt8.ofNat (48 + d)).toNat = 48 + d := by
  rw [UInt8.toNat_ofNat']
  omega
theorem dgs_val (n : Nat) : dval (dgs n) = n := by
  induction n using Nat.strongRecOn with
  | ind n ih =>
    by_cases h : n < 10
    · rw [dgs_one h, ← List.nil_append [UInt8.ofNat (48 + n)], dval_app, dig_nat h]
      simp [dval]
    · rw [dgs_more h, dval_app, ih (n / 10) (by omega), dig_nat (by omega)]
      omega
theorem dgs_dig (n : Nat) : ∀ c ∈ dgs n, 48 ≤ c.toNat ∧ c.toNat ≤ 57 := by
  induction n using Nat.strongRecOn with
  | ind n ih =>
    intro c hc
    by_cases h : n < 10
    · rw [dgs_one h, List.mem_singleton] at hc
      rw [hc, dig_nat h]; omega
    · rw [dgs_more h, List.mem_append, List.mem_singleton] at hc
      rcases hc with hc | hc
      · exact ih (n / 10) (by omega) c hc
      · rw [hc, dig_nat (by omega)]; omega
def ltL (k : Nat) : List UInt8 := dgs (k / 10) ++ 46 :: dgs (k % 10)
theorem mkb_data (l : List UInt8) : (mkb l).data.toList = l := by
  show l.toArray.toList = l
  simp
theorem ltOf_list {n : Int} (h : 0 ≤ n ∧ n ≤ 1000000000) : (ltOf n).data.toList = ltL n.toNat := by
  unfold ltOf ltL
  rw [if_pos h, show (⟨#[46]⟩ : ByteArray) = mkb [46] from rfl, mkb_append, mkb_append, mkb_data, show (n / 10).toNat = n.toNat / 10 by omega, show (n % 10).toNat = n.toNat % 10 by omega]
  simp
theorem dgs_no46 (n : Nat) : ∀ c ∈ dgs n, c ≠ 46 := by
  intro c hc h
  have := dgs_dig n c hc
  rw [h] at this
  simp at this
def spl (pre : List UInt8) : List UInt8 → List (List UInt8)
  | [] => [pre]
  | c :: t => if c = 46 then pre :: spl [] t else spl (pre ++ [c]) t
theorem spl_plain : ∀ (l pre : List UInt8), (∀ c ∈ l, c ≠ 46) → spl pre l = [pre ++ l]
  | [], pre, _ => by simp [spl]
  | c :: t, pre, h => by
    rw [spl, if_neg (h c (by simp)), spl_plain t _ (fun x hx => h x (by simp [hx]))]
    simp
theorem spl_two : ∀ (x pre y : List UInt8), (∀ c ∈ x, c ≠ 46) → spl pre (x ++ 46 :: y) = (pre ++ x) :: spl [] y
  | [], pre, y, _ => by simp [spl]
  | c :: t, pre, y, h => by
    rw [List.cons_append, spl, if_neg (h c (by simp)), spl_two t _ y (fun x hx => h x (by simp [hx]))]
    simp
theorem spl_ne : ∀ (l pre : List UInt8), 1 ≤ (spl pre l).length
  | [], pre => by simp [spl]
  | c :: t, pre => by
    rw [spl]
    split
    · simp
    · exact spl_ne t _
theorem spl_one : ∀ (l pre x : List UInt8), spl pre l = [x] → x = pre ++ l
  | [], pre, x, h => by simp [spl] at h; simp [h]
  | c :: t, pre, x, h => by
    rw [spl] at h
    split at h
    · have := spl_ne t []
      rw [List.cons.injEq] at h
      rw [h.2] at this
      simp at this
    · rw [spl_one t _ x h]; simp
theorem spl_join : ∀ (l pre x y : List UInt8), spl pre l = [x, y] → pre ++ l = x ++ 46 :: y
  | [], pre, x, y, h => by simp [spl] at h
  | c :: t, pre, x, y, h => by
    rw [spl] at h
    split at h
    · rename_i hc
      rw [List.cons.injEq] at h
      have := spl_one t [] y h.2
      rw [hc, h.1, this]
      simp
    · have := spl_join t _ x y h
      rw [← this]
      simp
theorem spl_len : ∀ (l pre : List UInt8), (spl pre l).length ≤ l.length + 1
  | [], pre => by simp [spl]
  | c :: t, pre => by
    rw [spl]
    split
    · have := spl_len t []
      simp only [List.length_cons]
      omega
    · have := spl_len t (pre ++ [c])
      simp only [List.length_cons]
      omega
theorem bt_at (s : ByteArray) (i : Nat) (h : i < s.size) : bt s (i : Int) = (((s.data.toList[i]'(by simpa using h)).toNat : Nat) : Int) := by
  unfold bt
  rw [dif_pos (by rw [Int.toNat_natCast]; exact h)]
  simp [ByteArray.getElem_eq_getElem_data]
theorem ext_mkb (s : ByteArray) (a b : Nat) : s.extract a b = mkb ((s.data.toList.drop a).take (b - a)) := by
  rw [mkb_of (s.extract a b)]
  congr 1
  rw [ByteArray.data_extract, Array.toList_extract]
theorem split_ev (s : ByteArray) (hs : s.size ≤ 1048576) : Ev (fun k => spec_l01Split.f k s 46) ((spl [] s.data.toList).map mkb) := by
  have hsz : s.data.toList.length = s.size := by simp
  have loop : ∀ (d i a : Nat) (ps : List ByteArray), i + d = s.size → a ≤ i → ps.length ≤ i → Ev (fun k => spec_l01Split.l0 k s 46 ps (a : Int) (i : Int)) (ps ++ (spl ((s.data.toList.drop a).take (i - a)) (s.data.toList.drop i)).map mkb) := by
    intro d
    induction d with
    | zero =>
      intro i a ps hi ha hp
      have e : s.data.toList.drop i = [] := List.drop_of_length_le (by omega)
      rw [e, spl]
      refine Ev.step (f := fun k => spec_l01Split.l0 k s 46 (ps ++ [s.extract a i]) ((i + 1 : Nat) : Int) ((i + 1 : Nat) : Int)) (fun k => ?_) ?_
      · rw [spec_l01Split.l0, if_pos (by omega), if_pos (by omega), if_pos (by omega), if_pos (by omega), if_pos (by omega), w64n i (by omega)]
        rfl
      · refine Ev.step (f := fun _ => some (ps ++ [s.extract a i])) (fun k => by rw [spec_l01Split.l0, if_neg (by omega)]) ?_
        rw [ext_mkb]
        exact Ev.now _
    | succ d ih =>
      intro i a ps hi ha hp
      have hil : i < s.data.toList.length := by omega
      rw [List.drop_eq_getElem_cons hil, spl]
      by_cases h : s.data.toList[i] = 46
      · rw [if_pos h]
        refine Ev.step (f := fun k => spec_l01Split.l0 k s 46 (ps ++ [s.extract a i]) ((i + 1 : Nat) : Int) ((i + 1 : Nat) : Int)) (fun k => ?_) ?_
        · rw [spec_l01Split.l0, if_pos (by omega), if_neg (by omega), if_pos (by omega), if_pos (by omega), if_pos (by rw [bt_at s i (by omega), h]; rfl), if_pos (by omega), if_pos (by omega), if_pos (by omega), w64n i (by omega)]
          rfl
        · have := ih (i + 1) (i + 1) (ps ++ [s.extract a i]) (by omega) (Nat.le_refl _) (by rw [List.length_append]; simp; omega)
          rw [Nat.sub_self, List.take_zero, List.append_assoc] at this
          rw [List.map_cons, ← ext_mkb]
          exact this
      · rw [if_neg h]
        refine Ev.step (f := fun k => spec_l01Split.l0 k s 46 ps (a : Int) ((i + 1 : Nat) : Int)) (fun k => ?_) ?_
        · rw [spec_l01Split.l0, if_pos (by omega), if_neg (by omega), if_pos (by omega), if_pos (by omega), if_neg (by rw [bt_at s i (by omega)]; intro z; exact h (UInt8.toNat_inj.1 (Int.ofNat.inj z))), w64n i (by omega)]
        · have := ih (i + 1) a ps (by omega) (by omega) (by omega)
          rw [show i + 1 - a = (i - a) + 1 by omega, List.take_succ_eq_append_getElem (by rw [List.length_drop]; omega)] at this
          have e2 : (s.data.toList.drop a)[i - a]'(by rw [List.length_drop]; omega) = s.data.toList[i] := by
            rw [List.getElem_drop]
            congr 1
            omega
          rw [e2] at this
          exact this
  have := loop s.size 0 0 [] (by omega) (Nat.le_refl _) (Nat.le_refl _)
  rw [List.nil_append, List.drop_zero, Nat.sub_self, List.take_zero] at this
  exact Ev.congr (fun k => rfl) this
def Canon (l : List UInt8) (r : Int × Bool) : Prop := (r.2 = true → ∃ n : Nat, r.1 = (n : Int) ∧ l = dgs n ∧ l.length ≤ 10) ∧ (∀ n : Nat, l = dgs n → l.length ≤ 10 → r = ((n : Int), true))
theorem fold_lt : ∀ (l : List UInt8) (a : Nat), (∀ c ∈ l, 48 ≤ c.toNat ∧ c.toNat ≤ 57) → l.foldl (fun a c => 10 * a + (c.toNat - 48)) a < (a + 1) * 10 ^ l.length
  | [], a, _ => by simp
  | c :: t, a, h => by
    have hc := h c (by simp)
    have ih := fold_lt t (10 * a + (c.toNat - 48)) (fun x hx => h x (by simp [hx]))
    rw [List.foldl_cons, List.length_cons, Nat.pow_succ]
    refine Nat.lt_of_lt_of_le ih ?_
    rw [Nat.mul_comm (10 ^ t.length) 10, ← Nat.mul_assoc]
    exact Nat.mul_le_mul_right _ (by omega)
theorem dval_lt (l : List UInt8) (h : ∀ c ∈ l, 48 ≤ c.toNat ∧ c.toNat ≤ 57) : dval l < 10 ^ l.length := by
  have := fold_lt l 0 h
  rw [Nat.zero_add, Nat.one_mul] at this
  exact this
theorem mkb_bt (l : List UInt8) (i : Nat) (h : i < l.length) : bt (mkb l) (i : Int) = ((l[i].toNat : Nat) : Int) := by
  rw [bt_at (mkb l) i (by rw [mkb_size]; exact h)]
  congr 2
theorem digits_ev (l : List UInt8) (hl : l.length ≤ 1048576) : ∃ r, Ev (fun k => spec_l01Digits.f k (mkb l)) r ∧ Canon l r := by
  have hsz : (mkb l).size = l.length := mkb_size l
  have none_ : l.length < 1 ∨ 10 < l.length → Canon l (0, false) := by
    intro h
    refine ⟨fun z => by simp at z, fun n e z => ?_⟩
    have := (dgs_len n).1
    rw [← e] at this
    omega
  by_cases h1 : l.length < 1
  · refine ⟨(0, false), ?_, none_ (.inl h1)⟩
    unfold spec_l01Digits.f
    refine Ev_ite_t (by omega) ?_
    exact Ev.step (f := fun _ => some (0, false)) (fun k => by rw [spec_l01Digits.j0, if_pos rfl]) (Ev.now _)
  · by_cases h2 : 10 < l.length
    · refine ⟨(0, false), ?_, none_ (.inr h2)⟩
      unfold spec_l01Digits.f
      refine Ev_ite_f (by omega) ?_
      exact Ev.step (f := fun _ => some (0, false)) (fun k => by rw [spec_l01Digits.j0, if_pos (by rw [decide_eq_true_iff]; omega)]) (Ev.now _)
    · have hp : (10 : Nat) ^ l.length ≤ 10 ^ 10 := Nat.pow_le_pow_right (by omega) (by omega)
      have loop : ∀ (d i : Nat), i + d = l.length → (∀ c ∈ l.take i, 48 ≤ c.toNat ∧ c.toNat ≤ 57) → ∃ r, Ev (fun k => spec_l01Digits.l0 k (mkb l) ((dval (l.take i) : Nat) : Int) (i : Int)) r ∧ ((∀ c ∈ l, 48 ≤ c.toNat ∧ c.toNat ≤ 57) → r = (((dval l : Nat) : Int), (mkb (dgs (dval l))).toList == (mkb l).toList)) ∧ (¬ (∀ c ∈ l, 48 ≤ c.toNat ∧ c.toNat ≤ 57) → r = (0, false)) := by
        intro d
        induction d with
        | zero =>
          intro i hi ht
          rw [List.take_of_length_le (by omega)] at ht ⊢
          have hlt := dval_lt l ht
          refine ⟨_, Ev.step (f := fun k => (spec_l01Dec.f k ((dval l : Nat) : Int)).bind fun t => some (((dval l : Nat) : Int), (t.toList == (mkb l).toList))) (fun k => ?_) (Ev.bind (dec_ev (dval l) (by omega)) (Ev.now _)), fun _ => rfl, fun z => (z ht).elim⟩
          rw [spec_l01Digits.l0, if_neg (by omega)]
        | succ d ih =>
          intro i hi ht
          have hil : i < l.length := by omega
          have hb := mkb_bt l i hil
          have hmem : l[i] ∈ l := List.getElem_mem hil
          by_cases hd : 48 ≤ l[i].toNat ∧ l[i].toNat ≤ 57
          · have htk : l.take (i + 1) = l.take i ++ [l[i]] := List.take_succ_eq_append_getElem hil
            have hlt := dval_lt (l.take i) ht
            have hp2 : (10 : Nat) ^ (l.take i).length ≤ 10 ^ 10 := Nat.pow_le_pow_right (by omega) (by rw [List.length_take]; omega)
            obtain ⟨r, g1, g2⟩ := ih (i + 1) (by omega) (by
              intro c hc
              rw [htk, List.mem_append, List.mem_singleton] at hc
              rcases hc with hc | rfl
              · exact ht c hc
              · exact hd)
            refine ⟨r, Ev.step (fun k => ?_) g1, g2⟩
            rw [spec_l01Digits.l0, if_pos (by omega), if_pos (by omega), if_neg (by omega), if_neg (by omega), hb, w64n i (by omega), htk, dval_app]
            rw [w64 (x := 10 * ((dval (l.take i) : Nat) : Int)) (by omega) (by omega), w64 (by omega) (by omega)]
            congr 1
            omega
          · refine ⟨(0, false), Ev.step (f := fun _ => some (0, false)) (fun k => ?_) (Ev.now _), fun z => (hd (z _ hmem)).elim, fun _ => rfl⟩
            rw [spec_l01Digits.l0, if_pos (by omega), if_pos (by omega)]
            by_cases h48 : 48 ≤ l[i].toNat
            · rw [if_neg (by omega), if_pos (by omega)]
            · rw [if_pos (by omega)]
      obtain ⟨r, g1, g2, g3⟩ := loop l.length 0 (by omega) (by simp)
      refine ⟨r, ?_, ?_, ?_⟩
      · unfold spec_l01Digits.f
        refine Ev_ite_f (by omega) ?_
        refine Ev.step (fun k => by rw [spec_l01Digits.j0, if_neg (by rw [decide_eq_true_iff]; omega)]) ?_
        exact Ev.congr (fun k => rfl) g1
      · intro hr
        by_cases ha : ∀ c ∈ l, 48 ≤ c.toNat ∧ c.toNat ≤ 57
        · rw [g2 ha] at hr ⊢
          simp only [beq_iff_eq, mkb_list] at hr
          exact ⟨dval l, rfl, hr.symm, by omega⟩
        · rw [g3 ha] at hr
          simp at hr
      · intro n hn _
        have ha : ∀ c ∈ l, 48 ≤ c.toNat ∧ c.toNat ≤ 57 := by rw [hn]; exact dgs_dig n
        rw [g2 ha, hn, dgs_val]
        simp
theorem parse_dig (M : Nat) : ∀ (l : List UInt8) (acc : Nat), (∀ c ∈ l, 48 ≤ c.toNat ∧ c.toNat ≤ 57) → l.foldl (fun a c => 10 * a + (c.toNat - 48)) acc ≤ M → M ≤ 18446744073709551615 → Go.Lib.parseUintM M acc l = .ok (l.foldl (fun a c => 10 * a + (c.toNat - 48)) acc)
  | [], acc, _, _, _ => by rw [Go.Lib.parseUintM]; rfl
  | c :: t, acc, h, hM, hB => by
    have hc := h c (by simp)
    have mono : ∀ (l : List UInt8) (a : Nat), a ≤ l.foldl (fun a c => 10 * a + (c.toNat - 48)) a := by
      intro l
      induction l with
      | nil => intro a; exact Nat.le_refl _
      | cons x t ih => intro a; exact Nat.le_trans (by show a ≤ 10 * a + (x.toNat - 48); omega) (ih _)
    rw [List.foldl_cons] at hM
    have hm := mono t (10 * acc + (c.toNat - 48))
    rw [Go.Lib.parseUintM, if_pos hc, if_neg (by omega), if_neg (by omega), Nat.mul_comm acc 10, parse_dig M t _ (fun x hx => h x (by simp [hx])) hM hB]
    rfl
theorem parse_dgs (n : Nat) (h : n < 10000000000) : Go.Lib.parseIntB 64 (dgs n) = .ok (n : Int) := by
  have hd := dgs_dig n
  have hv := dgs_val n
  have hl := (dgs_len n).1
  cases hg : dgs n with
  | nil => rw [hg] at hl; simp at hl
  | cons c t =>
    rw [hg] at hd hv
    have hc := hd c (by simp)
    have hp := parse_dig (2 ^ 64 - 1) (c :: t) 0 hd (by show dval (c :: t) ≤ _; rw [hv]; omega) (by omega)
    have hp2 : Go.Lib.parseUintM (2 ^ 64 - 1) 0 (c :: t) = .ok n := by rw [hp]; exact congrArg _ hv
    unfold Go.Lib.parseIntB
    simp only
    rw [if_neg (by omega)]
    unfold Go.Lib.parseUintB
    rw [if_neg (by simp), hp2]
    simp only
    rw [if_neg (by omega), if_neg (by omega), if_neg (by omega)]
theorem parse_range {l : List UInt8} {v : Int} (h : Go.Lib.parseIntB 64 l = .ok v) : -9223372036854775808 ≤ v ∧ v ≤ 9223372036854775807 := by
  unfold Go.Lib.parseIntB at h
  split at h
  · cases h
  · simp only at h
    split at h
    · cases h
    · cases h
    · rename_i u _
      split at h
      · cases h
      · rename_i h1
        split at h
        · cases h
        · rename_i h2
          injection h with h
          rw [← h]
          split
          · rename_i h3
            have : ¬ (2 ^ 63 < u) := fun z => h2 ⟨h3, z⟩
            omega
          · rename_i h3
            have : ¬ (2 ^ 63 ≤ u) := fun z => h1 ⟨h3, z⟩
            omega
theorem readDec_canon (l : List UInt8) (hl : l.length ≤ 1048576) : ∃ r, impl_readDecimal.f (mkb l) = some r ∧ Canon l r := by
  have hsz : (mkb l).size = l.length := mkb_size l
  have hdat : (mkb l).data.toList = l := mkb_data l
  have no : (∀ n : Nat, l = dgs n → l.length ≤ 10 → False) → Canon l (0, false) := fun h => ⟨fun z => by simp at z, fun n e z => (h n e z).elim⟩
  have small : ∀ n : Nat, l = dgs n → l.length ≤ 10 → n < 10000000000 := by
    intro n e z
    have := dval_lt l (by rw [e]; exact dgs_dig n)
    rw [e, dgs_val, ← e] at this
    exact Nat.lt_of_lt_of_le this (Nat.le_trans (Nat.pow_le_pow_right (by omega) z) (by omega))
  unfold impl_readDecimal.f
  rw [if_pos (by omega), hdat]
  have hrd : ∀ n : Nat, l = dgs n → l.length ≤ 10 → rdNum l = some (n : Int) := by
    intro n e z
    unfold rdNum
    rw [e, parse_dgs n (small n e z)]
  cases hn : rdNum l with
  | none =>
    simp only
    exact ⟨_, rfl, no (fun n e z => by rw [hrd n e z] at hn; cases hn)⟩
  | some v =>
    simp only
    by_cases h1 : (mkb l).size ≤ 10 ∧ 0 ≤ v
    · rw [if_pos h1]
      by_cases h2 : -9223372036854775808 ≤ v ∧ v ≤ 9223372036854775807
      · rw [if_pos h2]
        obtain ⟨m, rfl⟩ := Int.eq_ofNat_of_zero_le h1.2
        rw [Go.Lib.itoa_nonneg]
        by_cases h3 : Go.Lib.decDigits m = l
        · rw [if_pos h3]
          refine ⟨_, rfl, fun _ => ⟨m, rfl, h3.symm, by omega⟩, fun n e z => ?_⟩
          have := hrd n e z
          rw [hn] at this
          injection this with this
          rw [this]
        · rw [if_neg h3]
          refine ⟨_, rfl, no (fun n e z => ?_)⟩
          have := hrd n e z
          rw [hn] at this
          injection this with this
          have hmn : m = n := by omega
          exact h3 (by rw [hmn, e]; rfl)
      · exfalso
        apply h2
        unfold rdNum at hn
        split at hn
        · rename_i u hu
          injection hn with hn
          rw [← hn]
          exact parse_range hu
        · cases hn
    · rw [if_neg h1]
      refine ⟨_, rfl, no (fun n e z => ?_)⟩
      have := hrd n e z
      rw [hn] at this
      injection this with this
      exact h1 ⟨by omega, by omega⟩
theorem ltL_cut (k : Nat) : spl [] (ltL k) = [dgs (k / 10), dgs (k % 10)] := by
  unfold ltL
  rw [spl_two (dgs (k / 10)) [] (dgs (k % 10)) (dgs_no46 _), spl_plain _ _ (dgs_no46 _)]
  simp
theorem ltL_short (k : Nat) (hk : k ≤ 1000000000) : (dgs (k / 10)).length ≤ 10 ∧ (dgs (k % 10)).length = 1 := by
  refine ⟨?_, by rw [dgs_one (by omega)]; rfl⟩
  have : ∀ (m n : Nat), 1 ≤ m → n < 10 ^ m → (dgs n).length ≤ m := by
    intro m
    induction m with
    | zero => intro n h; omega
    | succ m ih =>
      intro n _ h
      by_cases h1 : n < 10
      · rw [dgs_one h1]; simp
      · rw [dgs_more h1, List.length_append, List.length_singleton]
        rw [Nat.pow_succ] at h
        have hm : 1 ≤ m := by
          cases m with
          | zero => simp at h; omega
          | succ m => omega
        have := ih (n / 10) hm (by omega)
        omega
  exact this 10 (k / 10) (by omega) (by omega)
def RL (s : ByteArray) (r : Int × Bool) : Prop := (r.2 = true → ∃ k : Nat, k ≤ 1000000000 ∧ r.1 = (k : Int) ∧ s.data.toList = ltL k) ∧ (r.2 = false → r.1 = 0) ∧ (∀ k : Nat, k ≤ 1000000000 → s.data.toList = ltL k → r = ((k : Int), true))
theorem RL_unique {s : ByteArray} {a b : Int × Bool} (ha : RL s a) (hb : RL s b) : a = b := by
  obtain ⟨a1, a2, a3⟩ := ha
  obtain ⟨b1, b2, b3⟩ := hb
  cases h : a.2 with
  | true =>
    obtain ⟨k, k1, k2, k3⟩ := a1 h
    rw [a3 k k1 k3, b3 k k1 k3]
  | false =>
    cases h' : b.2 with
    | true =>
      obtain ⟨k, k1, k2, k3⟩ := b1 h'
      have := a3 k k1 k3
      rw [this] at h
      cases h
    | false => exact Prod.ext ((a2 h).trans (b2 h').symm) (h.trans h'.symm)
theorem specRL_ev (s : ByteArray) (hs : s.size ≤ 1048576) : ∃ r, Ev (fun k => spec_ReadLength.f k s) r ∧ RL s r := by
  have hsz : s.data.toList.length = s.size := by simp
  have hsp := split_ev s hs
  have hlen := spl_len s.data.toList []
  have bad : (∀ x y : List UInt8, spl [] s.data.toList = [x, y] → y.length = 1 → False) → RL s (0, false) := by
    intro h
    refine ⟨fun z => by simp at z, fun _ => rfl, fun k hk e => ?_⟩
    exact (h _ _ (by rw [e]; exact ltL_cut k) (ltL_short k hk).2).elim
  have end_ : ∀ ps : List ByteArray, Ev (fun k => spec_ReadLength.j0 k ps true) (0, false) := fun ps => Ev.step (f := fun _ => some (0, false)) (fun k => by rw [spec_ReadLength.j0, if_pos rfl]) (Ev.now _)
  have hjoin := spl_join s.data.toList []
  generalize spl [] s.data.toList = ps at hsp hlen bad hjoin
  unfold spec_ReadLength.f
  by_cases h2 : ps.length = 2
  · obtain ⟨x, y, rfl⟩ : ∃ x y, ps = [x, y] := by
      match ps, h2 with
      | [x, y], _ => exact ⟨x, y, rfl⟩
    have hxy := hjoin x y rfl
    have hl2 : x.length + y.length + 1 = s.size := by rw [← hsz, show s.data.toList = [] ++ s.data.toList from rfl, hxy]; simp; omega
    by_cases hy : y.length = 1
    · obtain ⟨r1, d1, c1⟩ := digits_ev x (by omega)
      obtain ⟨r2, d2, c2⟩ := digits_ev y (by omega)
      by_cases hok : r1.2 = true ∧ r2.2 = true
      · obtain ⟨n, n1, n2, n3⟩ := c1.1 hok.1
        obtain ⟨m, m1, m2, m3⟩ := c2.1 hok.2
        have hn : n < 10000000000 := by
          have := dval_lt x (by rw [n2]; exact dgs_dig n)
          rw [n2, dgs_val, ← n2] at this
          exact Nat.lt_of_lt_of_le this (Nat.le_trans (Nat.pow_le_pow_right (by omega) n3) (by omega))
        have hm : m < 10 := by
          have := dval_lt y (by rw [m2]; exact dgs_dig m)
          rw [m2, dgs_val, ← m2, hy] at this
          exact this
        have hdig : s.data.toList = dgs n ++ 46 :: dgs m := by rw [← n2, ← m2]; exact hxy
        have key : Ev (fun k => spec_ReadLength.f k s) (if 10 * n + m ≤ 1000000000 then (((10 * n + m : Nat) : Int), true) else (0, false)) := by
          unfold spec_ReadLength.f
          refine Ev.bind hsp (Ev_ite_t (by simp) (Ev_ite_t (by simp) ?_))
          refine Ev.step (f := fun k => (spec_l01Digits.f k (mkb x)).bind fun a => (spec_l01Digits.f k (mkb y)).bind fun b => if a.2 = true then (if b.2 = true then ((spec_l01In.f (wrap64 ((wrap64 (10 * a.1)) + b.1)) 0 1000000000).bind fun t => if t = true then some (wrap64 ((wrap64 (10 * a.1)) + b.1), true) else some (0, false)) else some (0, false)) else some (0, false)) (fun k => ?_) ?_
          · rw [spec_ReadLength.j0, if_neg (by simp [rdOf, mkb_size, hy]), if_pos (by simp)]
            simp only [show (1 : Int) < ((List.map mkb [x, y]).length : Int) by simp, if_true]
            rfl
          · refine Ev.bind d1 (Ev.bind d2 (Ev_ite_t hok.1 (Ev_ite_t hok.2 ?_)))
            rw [n1, m1, w64 (x := 10 * (n : Int)) (by omega) (by omega), w64 (x := 10 * (n : Int) + (m : Int)) (by omega) (by omega)]
            simp only [l01In_eq, Option.bind_some, decide_eq_true_eq]
            by_cases hk : 10 * n + m ≤ 1000000000
            · rw [if_pos hk, if_pos (by omega)]
              exact Ev.congr (fun k => by congr 2) (Ev.now _)
            · rw [if_neg hk, if_neg (by omega)]
              exact Ev.now _
        refine ⟨_, key, ?_⟩
        by_cases hk : 10 * n + m ≤ 1000000000
        · rw [if_pos hk]
          have hl : s.data.toList = ltL (10 * n + m) := by
            rw [hdig]
            unfold ltL
            rw [show (10 * n + m) / 10 = n by omega, show (10 * n + m) % 10 = m by omega]
          refine ⟨fun _ => ⟨_, hk, rfl, hl⟩, fun z => by simp at z, fun k _ e => ?_⟩
          have e1 := ltL_cut k
          have e2 := ltL_cut (10 * n + m)
          rw [← e, hl] at e1
          rw [e1] at e2
          simp only [List.cons.injEq, and_true] at e2
          have f1 := dgs_val (k / 10)
          have f2 := dgs_val (k % 10)
          rw [e2.1, dgs_val] at f1
          rw [e2.2, dgs_val] at f2
          rw [show k = 10 * n + m by omega]
        · rw [if_neg hk]
          refine ⟨fun z => by simp at z, fun _ => rfl, fun k hk2 e => ?_⟩
          exfalso
          have e1 := ltL_cut k
          have e2 : spl [] (dgs n ++ 46 :: dgs m) = [dgs n, dgs m] := by rw [spl_two _ _ _ (dgs_no46 _), spl_plain _ _ (dgs_no46 _)]; simp
          rw [← e, hdig, e2] at e1
          simp only [List.cons.injEq, and_true] at e1
          have f1 := dgs_val (k / 10)
          have f2 := dgs_val (k % 10)
          rw [← e1.1, dgs_val] at f1
          rw [← e1.2, dgs_val] at f2
          omega
      · refine ⟨(0, false), ?_, ⟨fun z => by simp at z, fun _ => rfl, fun k hk e => ?_⟩⟩
        · refine Ev.bind hsp (Ev_ite_t (by simp) (Ev_ite_t (by simp) ?_))
          refine Ev.step (f := fun k => (spec_l01Digits.f k (mkb x)).bind fun a => (spec_l01Digits.f k (mkb y)).bind fun b => if a.2 = true then (if b.2 = true then ((spec_l01In.f (wrap64 ((wrap64 (10 * a.1)) + b.1)) 0 1000000000).bind fun t => if t = true then some (wrap64 ((wrap64 (10 * a.1)) + b.1), true) else some (0, false)) else some (0, false)) else some (0, false)) (fun k => ?_) ?_
          · rw [spec_ReadLength.j0, if_neg (by simp [rdOf, mkb_size, hy]), if_pos (by simp)]
            simp only [show (1 : Int) < ((List.map mkb [x, y]).length : Int) by simp, if_true]
            rfl
          · refine Ev.bind d1 (Ev.bind d2 ?_)
            by_cases h1 : r1.2 = true
            · exact Ev_ite_t h1 (Ev_ite_f (fun z => hok ⟨h1, z⟩) (Ev.now _))
            · exact Ev_ite_f h1 (Ev.now _)
        · exfalso
          have e2 : [x, y] = [dgs (k / 10), dgs (k % 10)] := by
            have e1 := ltL_cut k
            have e3 : spl [] (x ++ 46 :: y) = [dgs (k / 10), dgs (k % 10)] := by rw [← e1, ← e, ← hxy]; rfl
            have e4 := e3
            have hx46 : ∀ c ∈ x, c ≠ 46 := by
              intro c hc hcc
              have h6 : (46 : UInt8) ∈ x := hcc ▸ hc
              obtain ⟨p, q, hpq, hp⟩ : ∃ p q, x = p ++ 46 :: q ∧ ∀ c ∈ p, c ≠ 46 := by
                clear e4 e3 e1 e hxy hl2 d1 c1 bad hsp hlen hjoin h2
                induction x with
                | nil => simp at h6
                | cons a t ih =>
                  by_cases ha : a = 46
                  · exact ⟨[], t, by rw [ha]; rfl, by simp⟩
                  · have : (46 : UInt8) ∈ t := by
                      rcases List.mem_cons.1 h6 with z | z
                      · exact (ha z.symm).elim
                      · exact z
                    have hcm : c ∈ t := hcc ▸ this
                    obtain ⟨p, q, h7, h8⟩ := ih hcm this
                    exact ⟨a :: p, q, by rw [h7]; rfl, fun d hd => by rcases List.mem_cons.1 hd with rfl | hd; exact ha; exact h8 d hd⟩
              rw [hpq, List.append_assoc, List.cons_append, spl_two p [] _ hp] at e4
              have h9 := spl_join (q ++ 46 :: y) [] 
              have : 2 ≤ (spl [] (q ++ 46 :: y)).length := by
                have : ∀ (q pre : List UInt8), 2 ≤ (spl pre (q ++ 46 :: y)).length := by
                  intro q
                  induction q with
                  | nil => intro pre; simp [spl]; exact spl_ne _ _
                  | cons b t ih =>
                    intro pre
                    rw [List.cons_append, spl]
                    split
                    · have := ih []
                      simp only [List.length_cons]; omega
                    · exact ih _
                exact this q []
              rw [List.cons.injEq] at e4
              rw [e4.2] at this
              simp at this
            rw [spl_two x [] y hx46] at e3
            have hy46 : spl [] y = [dgs (k % 10)] := by
              rw [List.cons.injEq] at e3
              exact e3.2
            have := spl_one y [] _ hy46
            rw [List.cons.injEq] at e3
            rw [← e3.1, this]
            simp
          simp only [List.cons.injEq, and_true] at e2
          have sh := ltL_short k hk
          have g1 := c1.2 (k / 10) e2.1 (by rw [e2.1]; exact sh.1)
          have g2 := c2.2 (k % 10) e2.2 (by rw [e2.2]; omega)
          exact hok ⟨by rw [g1], by rw [g2]⟩
    · refine ⟨(0, false), ?_, bad (fun a b hab hb => ?_)⟩
      · refine Ev.bind hsp (Ev_ite_t (by simp) (Ev_ite_t (by simp) ?_))
        refine Ev.step (f := fun _ => some (0, false)) (fun k => ?_) (Ev.now _)
        rw [spec_ReadLength.j0, if_pos (by simp [rdOf, mkb_size]; omega)]
      · simp only [List.cons.injEq, and_true] at hab
        rw [hab.2] at hy
        exact hy hb
  · refine ⟨(0, false), ?_, bad (fun a b hab _ => h2 (by rw [hab]; rfl))⟩
    refine Ev.bind hsp (Ev_ite_f (by simp; omega) ?_)
    exact end_ _
theorem index46 : ∀ (l : List UInt8), (∀ c ∈ l, c ≠ 46) → Go.Lib.index l [46] = -1
  | [], _ => by rw [Go.Lib.index]; rfl
  | c :: t, h => by
    have hc := h c (by simp)
    rw [Go.Lib.index, index46 t (fun x hx => h x (by simp [hx]))]
    have : List.isPrefixOf [46] (c :: t) = false := by
      simp [List.isPrefixOf]
      exact fun z => hc z.symm
    rw [this]
    rfl
theorem index_two : ∀ (x y : List UInt8), (∀ c ∈ x, c ≠ 46) → Go.Lib.index (x ++ 46 :: y) [46] = (x.length : Int)
  | [], y, _ => by
    rw [List.nil_append, Go.Lib.index]
    simp [List.isPrefixOf]
  | c :: t, y, h => by
    have hc := h c (by simp)
    rw [List.cons_append, Go.Lib.index, index_two t y (fun x hx => h x (by simp [hx]))]
    have : List.isPrefixOf [46] (c :: (t ++ 46 :: y)) = false := by
      simp [List.isPrefixOf]
      exact fun z => hc z.symm
    rw [this]
    have h2 : ((t.length : Int) == -1) = false := by
      rw [beq_eq_false_iff_ne]
      omega
    rw [h2]
    simp
theorem cut_ltL (k : Nat) : Go.Lib.cut (ltL k) [46] = (dgs (k / 10), dgs (k % 10), true) := by
  unfold Go.Lib.cut ltL
  rw [index_two _ _ (dgs_no46 _), if_pos (by omega), Int.toNat_natCast]
  simp
theorem implRL (s : ByteArray) (hs : s.size ≤ 1048576) : ∃ r, impl_ReadLength.f s = some r ∧ RL s r := by
  have hsz : s.data.toList.length = s.size := by simp
  have hlx : (Go.Lib.cut s.data.toList [46]).1.length ≤ 1048576 := by
    unfold Go.Lib.cut
    split
    · simp only [List.length_take]; omega
    · simp only; omega
  have hly : (Go.Lib.cut s.data.toList [46]).2.1.length ≤ 1048576 := by
    unfold Go.Lib.cut
    split
    · simp only [List.length_drop]; omega
    · simp
  have hcut : ∀ k : Nat, s.data.toList = ltL k → Go.Lib.cut s.data.toList [46] = (dgs (k / 10), dgs (k % 10), true) := fun k e => by rw [e]; exact cut_ltL k
  have hc : strings_Cut.f s (⟨#[46]⟩ : ByteArray) = some (mkb (Go.Lib.cut s.data.toList [46]).1, mkb (Go.Lib.cut s.data.toList [46]).2.1, (Go.Lib.cut s.data.toList [46]).2.2) := by
    unfold strings_Cut.f
    rw [if_pos (by omega)]
    rfl
  have hnil : s.data.toList = [] → (Go.Lib.cut s.data.toList [46]).1 = [] := by
    intro e
    rw [e]
    rfl
  unfold impl_ReadLength.f
  rw [hc]
  simp only [Option.bind_some]
  generalize Go.Lib.cut s.data.toList [46] = c at hlx hly hcut hnil
  obtain ⟨r1, d1, c1⟩ := readDec_canon c.1 hlx
  obtain ⟨r2, d2, c2⟩ := readDec_canon c.2.1 hly
  rw [d1]
  simp only [Option.bind_some]
  rw [d2]
  simp only [Option.bind_some]
  have pos : ∀ k : Nat, k ≤ 1000000000 → s.data.toList = ltL k → r1 = (((k / 10 : Nat) : Int), true) ∧ r2 = (((k % 10 : Nat) : Int), true) := by
    intro k hk e
    have h := hcut k e
    have sh := ltL_short k hk
    exact ⟨c1.2 (k / 10) (by rw [h]) (by rw [h]; exact sh.1), c2.2 (k % 10) (by rw [h]) (by rw [h]; simp only; omega)⟩
  by_cases h1 : r1.2 = true
  · rw [if_pos h1]
    by_cases h2 : r2.2 = true
    · rw [if_pos h2, implLT_eq]
      simp only [Option.bind_some]
      generalize hv : wrap64 (wrap64 (r1.1 * 10) + r2.1) = v
      by_cases h3 : (ltOf v).toList = s.toList
      · rw [if_pos h3]
        rw [ByteArray.toList_eq, ByteArray.toList_eq] at h3
        have hr : 0 ≤ v ∧ v ≤ 1000000000 := by
          by_cases hr : 0 ≤ v ∧ v ≤ 1000000000
          · exact hr
          · exfalso
            have he : s.data.toList = [] := by
              rw [← h3]
              unfold ltOf
              rw [if_neg hr]
            obtain ⟨n, n1, n2, n3⟩ := c1.1 h1
            have h6 := (dgs_len n).1
            rw [← n2, hnil he] at h6
            simp at h6
        have hl : s.data.toList = ltL v.toNat := by rw [← h3]; exact ltOf_list hr
        refine ⟨_, rfl, fun _ => ⟨v.toNat, by omega, by simp only; omega, hl⟩, fun z => by simp at z, fun k hk e => ?_⟩
        obtain ⟨p1, p2⟩ := pos k hk e
        rw [p1, p2] at hv
        rw [w64 (x := ((k / 10 : Nat) : Int) * 10) (by omega) (by omega), w64 (x := ((k / 10 : Nat) : Int) * 10 + ((k % 10 : Nat) : Int)) (by omega) (by omega)] at hv
        rw [show v = (k : Int) by omega]
      · rw [if_neg h3]
        refine ⟨_, rfl, fun z => by simp at z, fun _ => rfl, fun k hk e => ?_⟩
        exfalso
        obtain ⟨p1, p2⟩ := pos k hk e
        rw [p1, p2] at hv
        rw [w64 (x := ((k / 10 : Nat) : Int) * 10) (by omega) (by omega), w64 (x := ((k / 10 : Nat) : Int) * 10 + ((k % 10 : Nat) : Int)) (by omega) (by omega)] at hv
        apply h3
        rw [ByteArray.toList_eq, ByteArray.toList_eq, ltOf_list (by omega), e, show v.toNat = k by omega]
    · rw [if_neg h2]
      refine ⟨_, rfl, fun z => by simp at z, fun _ => rfl, fun k hk e => ?_⟩
      exfalso
      apply h2
      rw [(pos k hk e).2]
  · rw [if_neg h1]
    refine ⟨_, rfl, fun z => by simp at z, fun _ => rfl, fun k hk e => ?_⟩
    exfalso
    apply h1
    rw [(pos k hk e).1]
theorem specLT_ev (n : Int) : Ev (fun k => spec_LengthText.f k n) (ltOf n) := by
  unfold spec_LengthText.f ltOf
  simp only [l01In_eq, Option.bind_some, decide_eq_true_eq]
  by_cases h : 0 ≤ n ∧ n ≤ 1000000000
  · rw [if_pos h]
    refine Ev_ite_t h ?_
    have e1 : wrap64 (Int.tdiv n 10) = (((n / 10).toNat : Nat) : Int) := by rw [Int.tdiv_eq_ediv_of_nonneg h.1, w64 (by omega) (by omega)]; omega
    have e2 : Int.tmod n 10 = (((n % 10).toNat : Nat) : Int) := by rw [Int.tmod_eq_emod_of_nonneg h.1]; omega
    rw [e1, e2]
    have s1 := dgs_small (n / 10).toNat (by omega)
    have s2 := dgs_small (n % 10).toNat (by omega)
    refine Ev.bind (dec_ev _ (by omega)) (Ev_ite_t (by omega) (Ev.bind (dec_ev _ (by omega)) (Ev_ite_t ?_ (Ev.now _))))
    rw [ByteArray.size_append]
    show (mkb (dgs (n / 10).toNat)).size + 1 + _ ≤ _
    omega
  · rw [if_neg h]; exact Ev_ite_f h (Ev.now _)
def Src (c : List Int) (a s : Int) : Prop := c.length ≤ 4096 ∧ (∀ x ∈ c, 0 ≤ x ∧ x ≤ 255) ∧ 0 ≤ a ∧ a ≤ c.length ∧ 0 ≤ s ∧ s < 2147483647
theorem tmod_range {x m : Int} (h : 0 ≤ x) (hm : 0 < m) : 0 ≤ Int.tmod x m ∧ Int.tmod x m < m := ⟨Int.tmod_nonneg _ h, Int.tmod_lt_of_pos _ hm⟩
theorem rd_byte {c : List Int} (hc : ∀ x ∈ c, 0 ≤ x ∧ x ≤ 255) (i : Int) : 0 ≤ rd c i ∧ rd c i ≤ 255 := by
  unfold rd
  by_cases h : i.toNat < c.length
  · simp only [List.getD_eq_getElem?_getD, List.getElem?_eq_getElem h, Option.getD_some]
    exact hc _ (List.getElem_mem h)
  · simp only [List.getD_eq_getElem?_getD, List.getElem?_eq_none (Nat.le_of_not_lt h), Option.getD_none]
    omega
theorem next_ok {c : List Int} {a s : Int} (h : Src c a s) (n : Int) (hn : n ≤ 9000000000000000000) :
    ∃ r a' s', spec_l01Next.f c a s n = some (r, a', s') ∧ Src c a' s' ∧ 0 ≤ r ∧ (1 ≤ n → r < n) := by
  obtain ⟨h1, h2, h3, h4, h5, h6⟩ := h
  unfold spec_l01Next.f
  by_cases hn1 : n ≤ 1
  · rw [if_pos hn1]
    exact ⟨0, a, s, rfl, ⟨h1, h2, h3, h4, h5, h6⟩, by omega, by omega⟩
  · rw [if_neg hn1]
    have e1 : wrap64 (wrap64 (s * 48271) + 61) = s * 48271 + 61 := by rw [w64 (x := s * 48271) (by omega) (by omega), w64 (by omega) (by omega)]
    rw [e1]
    have m1 := tmod_range (x := s * 48271 + 61) (m := 2147483647) (by omega) (by omega)
    generalize Int.tmod (s * 48271 + 61) 2147483647 = s1 at *
    have d1 : 0 ≤ Int.tdiv s1 31 ∧ Int.tdiv s1 31 ≤ 2147483647 := by
      rw [Int.tdiv_eq_ediv_of_nonneg m1.1]; omega
    rw [w64 (x := Int.tdiv s1 31) (by omega) (by omega)]
    generalize Int.tdiv s1 31 = q at *
    by_cases ha : a < (c.length : Int)
    · have e2 : wrap64 (a + 1) = a + 1 := w64 (by omega) (by omega)
      have e3 : wrap64 (a + 1 - 1) = a := by rw [w64 (by omega) (by omega)]; omega
      have b1 := rd_byte h2 a
      rw [if_pos ha, if_pos h3, e2, e3, w64 (x := rd c a) (by omega) (by omega), w64 (x := q + rd c a) (by omega) (by omega)]
      have r1 := tmod_range (x := rd c a) (m := n) b1.1 (by omega)
      have r2 := tmod_range (x := q + rd c a) (m := n) (by omega) (by omega)
      have hs : Src c (a + 1) s1 := ⟨h1, h2, by omega, by omega, m1.1, m1.2⟩
      by_cases hb : n ≤ 256
      · rw [if_pos hb]
        by_cases hc : Int.tmod (a + 1) 2 = 0
        · rw [if_pos hc, if_pos h3, if_pos ha, if_neg (by omega)]
          exact ⟨_, _, _, rfl, hs, r1.1, fun _ => r1.2⟩
        · rw [if_neg hc, if_neg (by omega)]
          exact ⟨_, _, _, rfl, hs, r2.1, fun _ => r2.2⟩
      · rw [if_neg hb, if_neg (by omega)]
        exact ⟨_, _, _, rfl, hs, r2.1, fun _ => r2.2⟩
    · rw [if_neg ha, if_neg (by omega)]
      have r1 := tmod_range (x := q) (m := n) (by omega) (by omega)
      exact ⟨_, _, _, rfl, ⟨h1, h2, h3, h4, m1.1, m1.2⟩, r1.1, fun _ => r1.2⟩
theorem from_ok (c : List Int) (hc : c.length ≤ 4096) (hb : ∀ x ∈ c, 0 ≤ x ∧ x ≤ 255) : ∃ a s, Ev (fun k => spec_l01From.f k c) (c, a, s) ∧ Src c a s := by
  have loop : ∀ (d i : Nat), i + d = c.length → ∀ s : Int, 0 ≤ s → s < 2147483647 → ∃ s', 0 ≤ s' ∧ s' < 2147483647 ∧ Ev (fun k => spec_l01From.l0 k c (i : Int) c 0 s) (c, 0, s') := by
    intro d
    induction d with
    | zero =>
      intro i hi s h0 h1
      exact ⟨s, h0, h1, Ev.step (f := fun _ => some (c, 0, s)) (fun k => by rw [spec_l01From.l0, if_neg (by omega)]) (Ev.now _)⟩
    | succ d ih =>
      intro i hi s h0 h1
      by_cases h64 : i < 64
      · have b1 := rd_byte hb (i : Int)
        have e1 : wrap64 (wrap64 (s * 71) + wrap64 (rd c (i : Int))) = s * 71 + rd c (i : Int) := by
          rw [w64 (x := s * 71) (by omega) (by omega), w64 (x := rd c (i : Int)) (by omega) (by omega), w64 (by omega) (by omega)]
        have m1 := tmod_range (x := s * 71 + rd c (i : Int)) (m := 2147483647) (by omega) (by omega)
        obtain ⟨s', g0, g1, g2⟩ := ih (i + 1) (by omega) (Int.tmod (s * 71 + rd c (i : Int)) 2147483647) m1.1 m1.2
        refine ⟨s', g0, g1, Ev.step (fun k => ?_) g2⟩
        rw [spec_l01From.l0, if_pos (by omega), if_pos (by omega), if_pos (by omega), w64n i (by omega), e1]
      · exact ⟨s, h0, h1, Ev.step (f := fun _ => some (c, 0, s)) (fun k => by rw [spec_l01From.l0, if_pos (by omega), if_neg (by omega)]) (Ev.now _)⟩
  obtain ⟨s', g0, g1, g2⟩ := loop c.length 0 (by omega) 88007 (by omega) (by omega)
  exact ⟨0, s', Ev.congr (fun k => rfl) g2, hc, hb, by omega, by omega, g0, g1⟩
theorem pick_ok {c : List Int} {a s : Int} (h : Src c a s) (l : List Int) (h0 : 0 < l.length) (h1 : l.length ≤ 1000) :
    ∃ r a' s', spec_l01Pick.f c a s l = some (r, a', s') ∧ Src c a' s' ∧ r ∈ l := by
  obtain ⟨r, a', s', e, hs, h2, h3⟩ := next_ok h (l.length : Int) (by omega)
  have h4 := h3 (by omega)
  unfold spec_l01Pick.f
  rw [e]
  simp only [Option.bind_some]
  rw [if_pos h2, if_pos h4]
  refine ⟨_, _, _, rfl, hs, ?_⟩
  obtain ⟨m, rfl⟩ := Int.eq_ofNat_of_zero_le h2
  exact rd_mem (by omega)
theorem damage_ok2 {c : List Int} {a s : Int} (h : Src c a s) (t : ByteArray) (ht : t.size ≤ 1000000) : ∃ r a' s', spec_l01Damage.f c a s t = some (r, a', s') ∧ Src c a' s' ∧ r.size ≤ t.size + 1 := by
  obtain ⟨k, a1, s1, e1, h1, k0, k1⟩ := next_ok h ((t.size : Int) + 1) (by omega)
  have k2 := k1 (by omega)
  obtain ⟨m, a2, s2, e2, h2, m0, _⟩ := next_ok h1 8 (by omega)
  obtain ⟨j, a3, s3, e3, h3, j0, j1⟩ := next_ok h2 8 (by omega)
  have j2 := j1 (by omega)
  have hx : (rdOf ByteArray.empty ([(⟨#[48]⟩ : ByteArray), (⟨#[49]⟩ : ByteArray), (⟨#[32]⟩ : ByteArray), (⟨#[45]⟩ : ByteArray), (⟨#[46]⟩ : ByteArray), (⟨#[44]⟩ : ByteArray), (⟨#[10]⟩ : ByteArray), (⟨#[120]⟩ : ByteArray)] : List ByteArray) j).size ≤ 1 := by
    obtain ⟨i, rfl⟩ := Int.eq_ofNat_of_zero_le j0
    have hi : i < 8 := by omega
    match i, hi with
    | 0, _ | 1, _ | 2, _ | 3, _ | 4, _ | 5, _ | 6, _ | 7, _ => exact Nat.le_refl _
    | n + 8, z => omega
  unfold spec_l01Damage.f
  rw [w64 (x := (t.size : Int) + 1) (by omega) (by omega), e1]
  simp only [Option.bind_some, e2]
  by_cases m1 : m = 0
  · rw [if_pos m1, if_pos k0, if_pos (by omega)]
    exact ⟨_, _, _, rfl, h2, by rw [ByteArray.size_extract]; omega⟩
  · rw [if_neg m1]
    by_cases m2 : m = 1
    · rw [if_pos m2, if_pos k0, if_pos (by omega), e3]
      simp only [Option.bind_some]
      rw [if_pos j0, if_pos (by simp; omega), if_pos (by rw [ByteArray.size_extract]; omega), if_pos (by rw [ByteArray.size_append, ByteArray.size_extract, ByteArray.size_extract]; omega)]
      exact ⟨_, _, _, rfl, h3, by rw [ByteArray.size_append, ByteArray.size_append, ByteArray.size_extract, ByteArray.size_extract]; omega⟩
    · rw [if_neg m2]
      by_cases m3 : m = 2
      · rw [if_pos m3]
        by_cases hk : k < (t.size : Int)
        · rw [if_pos hk]
          have ew : wrap64 (k + 1) = k + 1 := w64 (by omega) (by omega)
          simp only [ew]
          first
            | (rw [if_pos k0, if_pos (by omega), if_pos (by omega), if_pos (by omega), if_pos (by rw [ByteArray.size_extract, ByteArray.size_extract]; omega)]; exact ⟨_, _, _, rfl, h2, by rw [ByteArray.size_append, ByteArray.size_extract, ByteArray.size_extract]; omega⟩)
            | (repeat (first | rw [if_pos (by omega)] | rw [if_pos (by rw [ByteArray.size_extract, ByteArray.size_extract]; omega)])); exact ⟨_, _, _, rfl, h2⟩
        · rw [if_neg hk]; exact ⟨_, _, _, rfl, h2, by omega⟩
      · rw [if_neg m3]; exact ⟨_, _, _, rfl, h2, by omega⟩
theorem drawLT_ok (c : List Int) (hc : c.length ≤ 4096) (hb : ∀ x ∈ c, 0 ≤ x ∧ x ≤ 255) : ∃ n, Ev (fun k => spec_DrawLengthText.f k c) n := by
  obtain ⟨a, s, hf, h0⟩ := from_ok c hc hb
  obtain ⟨r1, a1, s1, e1, h1, _⟩ := next_ok h0 30 (by omega)
  obtain ⟨r2, a2, s2, e2, h2, _⟩ := next_ok h1 5000 (by omega)
  obtain ⟨r3, a3, s3, e3, h3, _⟩ := next_ok h2 1000000000 (by omega)
  obtain ⟨r4, a4, s4, e4, h4, _⟩ := pick_ok h3 [(-1), 1000000000, 1000000001] (by simp) (by simp)
  obtain ⟨r5, a5, s5, e5, h5, _⟩ := pick_ok h4 [r1, r2, r3, r4] (by simp) (by simp)
  refine ⟨r5, ?_⟩
  unfold spec_DrawLengthText.f
  refine Ev.bind hf ?_
  simp only [e1, e2, e3, e4, e5, Option.bind_some]
  exact Ev.now _
theorem lt_size (n : Int) : (ltOf n).size ≤ 20 := by
  by_cases h : 0 ≤ n ∧ n ≤ 1000000000
  · have e := ltOf_list h
    have sh := ltL_short n.toNat (by omega)
    have : (ltOf n).size = (ltOf n).data.toList.length := by simp
    rw [this, e]
    unfold ltL
    rw [List.length_append, List.length_cons]
    omega
  · unfold ltOf
    rw [if_neg h]
    exact Nat.zero_le _
theorem drawRL_ok (c : List Int) (hc : c.length ≤ 4096) (hb : ∀ x ∈ c, 0 ≤ x ∧ x ≤ 255) : ∃ t, Ev (fun k => spec_DrawReadLength.f k c) t ∧ t.size ≤ 21 := by
  obtain ⟨a, s, hf, h0⟩ := from_ok c hc hb
  obtain ⟨n, hn⟩ := drawLT_ok c hc hb
  have hz := lt_size n
  obtain ⟨r1, a1, s1, e1, h1, _⟩ := next_ok h0 3 (by omega)
  by_cases h : r1 = 0
  · obtain ⟨t, a2, s2, e2, h2, h3⟩ := damage_ok2 h1 (ltOf n) (by omega)
    refine ⟨t, ?_, by omega⟩
    unfold spec_DrawReadLength.f
    refine Ev.bind hf (Ev.bind hn (Ev.bind (specLT_ev n) ?_))
    simp only [e1, Option.bind_some, if_pos h, e2]
    exact Ev.now _
  · refine ⟨ltOf n, ?_, by omega⟩
    unfold spec_DrawReadLength.f
    refine Ev.bind hf (Ev.bind hn (Ev.bind (specLT_ev n) ?_))
    simp only [e1, Option.bind_some, if_neg h]
    exact Ev.now _
theorem ltL_ne (k : Nat) : ltL k ≠ [] := by
  unfold ltL
  simp
theorem FnLengths : laws_FnLengths.Pure := by
  intro c hc1 hc2 hw
  apply Ev.rounds
  unfold laws_FnLengths.f laws_big.f
  simp only [Option.bind_some, decide_eq_true_eq]
  by_cases hb : (c.length : Int) > 4096
  · exact Ev_ite_t hb (Ev.now _)
  · refine Ev_ite_f hb ?_
    have hcb := fun x hx => wf8 (hw x hx)
    obtain ⟨n, hn⟩ := drawLT_ok c (by omega) hcb
    obtain ⟨t, ht, htz⟩ := drawRL_ok c (by omega) hcb
    have hz := lt_size n
    obtain ⟨r, e1, g1⟩ := implRL (ltOf n) (by omega)
    obtain ⟨r2, e2, g2⟩ := implRL t (by omega)
    obtain ⟨r3, e3, g3⟩ := specRL_ev t (by omega)
    obtain rfl := RL_unique g2 g3
    refine Ev.bind hn ?_
    rw [implLT_eq]
    simp only [Option.bind_some]
    rw [e1]
    simp only [Option.bind_some]
    refine Ev.bind ht ?_
    rw [e2]
    simp only [Option.bind_some]
    refine Ev.bind e3 (Ev.bind (specLT_ev n) ?_)
    refine Ev_ite_t rfl ?_
    have tail : Ev (fun k => if r2.1 = r2.1 then (if (r2.2 == r2.2) = true then (if r2.2 = true then ((impl_LengthText.f r2.1).bind fun t214 => some (t214.toList == t.toList)) else some true) else none) else none) true := by
      refine Ev_ite_t rfl (Ev_ite_t (by simp) ?_)
      by_cases h : r2.2 = true
      · refine Ev_ite_t h ?_
        obtain ⟨k, k1, k2, k3⟩ := g2.1 h
        rw [implLT_eq]
        simp only [Option.bind_some]
        have : (ltOf r2.1).toList = t.toList := by rw [ByteArray.toList_eq, ByteArray.toList_eq, ltOf_list (by omega), k3, k2]; rfl
        rw [this]
        simp only [beq_self_eq_true]
        exact Ev.now _
      · exact Ev_ite_f h (Ev.now _)
    by_cases h : 0 ≤ n ∧ n ≤ 1000000000
    · have hl := ltOf_list h
      have hr := g1.2.2 n.toNat (by omega) hl
      have hne : ¬ (ltOf n).toList = [] := by rw [ByteArray.toList_eq, hl]; exact ltL_ne _
      rw [hr]
      refine Ev_ite_t (by simp [hne]) (Ev_ite_t rfl (Ev_ite_t (by simp only; omega) ?_))
      exact tail
    · have hem : (ltOf n).toList = [] := by rw [ByteArray.toList_eq]; unfold ltOf; rw [if_neg h]
      have hr : r.2 = false := by
        cases hh : r.2 with
        | false => rfl
        | true =>
          obtain ⟨k, k1, k2, k3⟩ := g1.1 hh
          rw [ByteArray.toList_eq, k3] at hem
          exact (ltL_ne _ hem).elim
      refine Ev_ite_t (by simp [hem, hr]) (Ev_ite_f (by simp [hr]) ?_)
      exact tail

end Go.Proofs.YtgleecemgobneaaDoor.Pure
