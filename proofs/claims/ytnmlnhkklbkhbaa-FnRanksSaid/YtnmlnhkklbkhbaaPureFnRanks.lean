/- The pure statement of FnRanks: for every input that the row lets in, the law's Lean function answers true; no further condition. -/
import Derived.Test.YtnmlnhkklbkhbaaQFnRanksx6
set_option linter.unusedVariables false
set_option linter.unusedSimpArgs false
namespace Go.Proofs.Ytnmlnhkklbkhbaa.Pure
open Go.RowKit Go.Proofs.Ytnmlnhkklbkhbaa.QFnRanks Go.Proofs.YtnmlnhkklbkhbaaW.PrintWords Go.Proofs.YtnmlnhkklbkhbaaW.PrintLast

theorem w64 {x : Int} (h0 : -9223372036854775808 ≤ x) (h1 : x ≤ 9223372036854775807) : wrap64 x = x := by unfold wrap64; omega
theorem wz : wrap64 0 = 0 := w64 (by omega) (by omega)
theorem w64_range (x : Int) : -9223372036854775808 ≤ wrap64 x ∧ wrap64 x ≤ 9223372036854775807 := by unfold wrap64; omega
theorem wf64 {x : Int} (h : (Lit.int .i64 x).wf = true) : -9223372036854775808 ≤ x ∧ x ≤ 9223372036854775807 := by
  have h' : (decide (IntKind.i64.min ≤ x) && decide (x ≤ IntKind.i64.max)) = true := h
  simp only [Bool.and_eq_true, decide_eq_true_eq] at h'
  exact h'
theorem wf8 {x : Int} (h : (Lit.int .u8 x).wf = true) : 0 ≤ x ∧ x ≤ 255 := by
  have h' : (decide (IntKind.u8.min ≤ x) && decide (x ≤ IntKind.u8.max)) = true := h
  simp only [Bool.and_eq_true, decide_eq_true_eq] at h'
  exact h'
theorem rd_get {xs : List Int} {i : Nat} (h : i < xs.length) : rd xs (i : Int) = xs[i] := by
  simp [rd, List.getD_eq_getElem?_getD, h]
theorem rd_nat (xs : List Int) (i : Nat) : rd xs (i : Int) = xs.getD i 0 := by simp [rd]
theorem rd_mem {xs : List Int} {i : Nat} (h : i < xs.length) : rd xs (i : Int) ∈ xs := by rw [rd_get h]; exact List.getElem_mem h
theorem rd_ext {xs ys : List Int} (hl : xs.length = ys.length) (h : ∀ i : Nat, i < xs.length → rd xs (i : Int) = rd ys (i : Int)) : xs = ys := by
  apply List.ext_getElem hl
  intro i h1 h2
  have := h i h1
  rwa [rd_get h1, rd_get h2] at this
theorem rd_set {xs : List Int} {i j : Nat} {v : Int} (hi : i < xs.length) : rd (xs.set i v) (j : Int) = if i = j then v else rd xs (j : Int) := by
  simp only [rd_nat, List.getD_eq_getElem?_getD, List.getElem?_set]
  by_cases h : i = j
  · subst h; simp [hi]
  · simp [h]
theorem rd_append_left {xs ys : List Int} {j : Nat} (h : j < xs.length) : rd (xs ++ ys) (j : Int) = rd xs (j : Int) := by
  simp only [rd_nat, List.getD_eq_getElem?_getD, List.getElem?_append_left h]
theorem rd_append_at {xs : List Int} {v : Int} : rd (xs ++ [v]) (xs.length : Int) = v := by
  simp [rd_nat, List.getD_eq_getElem?_getD]
theorem rd_take {xs : List Int} {i j : Nat} (h : j < i) : rd (xs.take i) (j : Int) = rd xs (j : Int) := by
  simp [rd_nat, List.getD_eq_getElem?_getD, List.getElem?_take, h]
theorem rd_drop {xs : List Int} {i j : Nat} : rd (xs.drop i) (j : Int) = rd xs ((i + j : Nat) : Int) := by
  simp only [rd_nat, List.getD_eq_getElem?_getD, List.getElem?_drop]
theorem toNat_cast (i : Nat) : ((i : Nat) : Int).toNat = i := Int.toNat_natCast i
theorem drop_cons {xs : List Int} {i : Nat} (h : i < xs.length) : xs.drop i = rd xs (i : Int) :: xs.drop (i + 1) := by
  rw [rd_get h]; exact List.drop_eq_getElem_cons h
theorem Ev_ite_t {α : Type} {c : Prop} [Decidable c] {f g : Nat → Option α} {r : α} (h : c) (k : Ev f r) : Ev (fun n => if c then f n else g n) r :=
  Ev.congr (fun _ => if_pos h) k
theorem Ev_ite_f {α : Type} {c : Prop} [Decidable c] {f g : Nat → Option α} {r : α} (h : ¬ c) (k : Ev g r) : Ev (fun n => if c then f n else g n) r :=
  Ev.congr (fun _ => if_neg h) k
theorem w64n (i : Nat) (h : i < 9223372036854775807) : wrap64 ((i : Int) + 1) = ((i + 1 : Nat) : Int) := by
  rw [w64 (by omega) (by omega)]; rfl
theorem wrap_add_wrap (a b : Int) : wrap64 (wrap64 a + b) = wrap64 (a + b) := by unfold wrap64; omega
theorem wrap_add_wrap' (a b : Int) : wrap64 (a + wrap64 b) = wrap64 (a + b) := by unfold wrap64; omega
theorem EvE_bind {α β : Type} {g : Nat → Option α} {f : Nat → α → Option β} {a : α} (h : Ev g a) (k : ∃ r, Ev (fun n => f n a) r) : ∃ r, Ev (fun n => (g n).bind (f n)) r := by
  obtain ⟨r, k⟩ := k
  exact ⟨r, Ev.bind h k⟩
theorem EvE_now {α : Type} (a : α) : ∃ r, Ev (fun _ : Nat => some a) r := ⟨a, Ev.now a⟩
theorem EvE_ite_t {α : Type} {c : Prop} [Decidable c] {f g : Nat → Option α} (h : c) (k : ∃ r, Ev f r) : ∃ r, Ev (fun n => if c then f n else g n) r := by
  obtain ⟨r, k⟩ := k
  exact ⟨r, Ev_ite_t h k⟩
theorem EvE_ite_f {α : Type} {c : Prop} [Decidable c] {f g : Nat → Option α} (h : ¬ c) (k : ∃ r, Ev g r) : ∃ r, Ev (fun n => if c then f n else g n) r := by
  obtain ⟨r, k⟩ := k
  exact ⟨r, Ev_ite_f h k⟩
def fac : Nat → Nat
  | 0 => 1
  | n + 1 => (n + 1) * fac n
theorem specFac_fin : ∀ n : Fin 13, spec_l01Factorial.f 20 (n.val : Int) = some (fac n.val : Int) := by decide +kernel
theorem implFac_fin : ∀ n : Fin 13, impl_factorial.f 20 (n.val : Int) = some (fac n.val : Int) := by decide +kernel
theorem specFac_ev (n : Nat) (h : n ≤ 12) : Ev (fun k => spec_l01Factorial.f k (n : Int)) (fac n : Int) := Ev.of (spec_l01Factorial.mono _) (specFac_fin ⟨n, by omega⟩)
theorem implFac_ev (n : Nat) (h : n ≤ 12) : Ev (fun k => impl_factorial.f k (n : Int)) (fac n : Int) := Ev.of (impl_factorial.mono _) (implFac_fin ⟨n, by omega⟩)
theorem l01Has_ev (l : List Int) (x : Int) (hl : l.length ≤ 35184372088832) : Ev (fun k => spec_l01Has.f k l x) (decide (x ∈ l)) := by
  have loop : ∀ (d i : Nat), i + d = l.length → Ev (fun k => spec_l01Has.l0 k l x (i : Int)) (decide (x ∈ l.drop i)) := by
    intro d
    induction d with
    | zero =>
      intro i hi
      have e : decide (x ∈ l.drop i) = false := by rw [List.drop_of_length_le (by omega)]; simp
      rw [e]
      exact Ev.step (f := fun _ => some false) (fun k => by rw [spec_l01Has.l0, if_neg (by omega)]) (Ev.now _)
    | succ d ih =>
      intro i hi
      by_cases e : rd l (i : Int) = x
      · have e1 : decide (x ∈ l.drop i) = true := by rw [drop_cons (by omega)]; simp [e]
        rw [e1]
        exact Ev.step (f := fun _ => some true) (fun k => by rw [spec_l01Has.l0, if_pos (by omega), if_pos (by omega), if_pos e]) (Ev.now _)
      · have e1 : decide (x ∈ l.drop i) = decide (x ∈ l.drop (i + 1)) := by rw [drop_cons (by omega)]; simp [Ne.symm e]
        rw [e1]
        exact Ev.step (fun k => by rw [spec_l01Has.l0, if_pos (by omega), if_pos (by omega), if_neg e, w64n i (by omega)]) (ih (i + 1) (by omega))
  have := loop l.length 0 (by omega)
  rw [List.drop_zero] at this
  exact Ev.congr (fun k => rfl) this
theorem l01In_eq (n a b : Int) : spec_l01In.f n a b = some (decide (a ≤ n ∧ n ≤ b)) := by
  unfold spec_l01In.f
  by_cases h : n ≥ a
  · rw [if_pos h]; simp [show a ≤ n from h]
  · rw [if_neg h]; simp [show ¬ a ≤ n from h]
theorem inRange_eq (n a b : Int) : impl_inRange.f n a b = some (decide (a ≤ n ∧ n ≤ b)) := by
  unfold impl_inRange.f
  by_cases h : a ≤ n
  · rw [if_pos h]; simp [h]
  · rw [if_neg h]; simp [h]
def remn (out : List Int) : Nat → Nat → List Int
  | 0, _ => []
  | d + 1, x => if (x : Int) ∈ out then remn out d (x + 1) else (x : Int) :: remn out d (x + 1)
theorem remn_ge (out : List Int) : ∀ (d x : Nat), ∀ y ∈ remn out d x, (x : Int) ≤ y
  | 0, x, y, h => by simp [remn] at h
  | d + 1, x, y, h => by
    rw [remn] at h
    split at h
    · have := remn_ge out d (x + 1) y h; omega
    · rcases List.mem_cons.1 h with rfl | h
      · omega
      · have := remn_ge out d (x + 1) y h; omega
theorem remn_le (out : List Int) : ∀ (d x : Nat), (remn out d x).length ≤ d
  | 0, x => by simp [remn]
  | d + 1, x => by
    have := remn_le out d (x + 1)
    rw [remn]
    split
    · omega
    · rw [List.length_cons]; omega
theorem remn_nodup (out : List Int) : ∀ (d x : Nat), (remn out d x).Nodup
  | 0, x => by simp [remn]
  | d + 1, x => by
    rw [remn]
    split
    · exact remn_nodup out d (x + 1)
    · rw [List.nodup_cons]
      exact ⟨fun h => by have := remn_ge out d (x + 1) _ h; omega, remn_nodup out d (x + 1)⟩
theorem remn_add (out : List Int) (v : Int) : ∀ (d x : Nat), remn (out ++ [v]) d x = (remn out d x).filter (fun y => decide (y ≠ v))
  | 0, x => by simp [remn]
  | d + 1, x => by
    rw [remn, remn, remn_add out v d (x + 1)]
    by_cases h : (x : Int) ∈ out
    · rw [if_pos (by simp [h]), if_pos h]
    · rw [if_neg h]
      by_cases e : (x : Int) = v
      · rw [if_pos (by simp [e]), List.filter_cons_of_neg (by simp [e])]
      · rw [if_neg (by simp [h, e]), List.filter_cons_of_pos (by simp [e])]
theorem filter_at : ∀ (L : List Int) (m : Nat), L.Nodup → m < L.length → L.filter (fun y => decide (y ≠ L.getD m 0)) = L.take m ++ L.drop (m + 1)
  | [], m, _, h => by simp at h
  | a :: t, 0, hn, _ => by
    rw [List.nodup_cons] at hn
    simp only [List.getD_cons_zero, List.take_zero, List.nil_append, List.drop_succ_cons, List.drop_zero]
    rw [List.filter_cons_of_neg (by simp)]
    exact List.filter_eq_self.2 (fun y hy => decide_eq_true (fun e => hn.1 (e ▸ hy)))
  | a :: t, m + 1, hn, h => by
    rw [List.nodup_cons] at hn
    have hm : m < t.length := by simpa using h
    have hv : t.getD m 0 ∈ t := by rw [List.getD_eq_getElem?_getD, List.getElem?_eq_getElem hm]; exact List.getElem_mem hm
    simp only [List.getD_cons_succ, List.take_succ_cons, List.drop_succ_cons, List.cons_append]
    have hne : a ≠ t.getD m 0 := fun e => hn.1 (by rw [e]; exact hv)
    rw [List.filter_cons_of_pos (by simpa using hne), filter_at t m hn.2 hm]
theorem fac_bounds : ∀ n : Fin 13, 1 ≤ fac n.val ∧ fac n.val ≤ 479001600 := by decide +kernel
theorem fac_bd (n : Nat) (h : n ≤ 12) : 1 ≤ fac n ∧ fac n ≤ 479001600 := fac_bounds ⟨n, by omega⟩
theorem spec_pick (n : Nat) (hn : n ≤ 12) (rk : Int) (out : List Int) (ho : out.length ≤ 12) (i : Nat) (hi : i ≤ 12) (R : List Int × Int) : ∀ (d x : Nat), x + d = n → ∀ c : Nat, c < (remn out d x).length →
    Ev (fun k => spec_OrderOfRank.l0 k (n : Int) rk (out ++ [(remn out d x).getD c 0]) ((i + 1 : Nat) : Int)) R → Ev (fun k => spec_OrderOfRank.l1 k (n : Int) rk out (i : Int) (c : Int) (x : Int)) R := by
  intro d
  induction d with
  | zero => intro x hx c hc; simp [remn] at hc
  | succ d ih =>
    intro x hx c hc hR
    have hh := l01Has_ev out (x : Int) (by omega)
    by_cases hm : (x : Int) ∈ out
    · rw [remn, if_pos hm] at hc hR
      rw [decide_eq_true hm] at hh
      refine Ev.step (f := fun k => (spec_l01Has.f k out (x : Int)).bind fun t => if t = true then spec_OrderOfRank.l1 k (n : Int) rk out (i : Int) (c : Int) ((x + 1 : Nat) : Int) else (if (c : Int) = 0 then (if out.length < 17592186044416 then spec_OrderOfRank.l0 k (n : Int) rk (out ++ [(x : Int)]) (wrap64 ((i : Int) + 1)) else none) else spec_OrderOfRank.l1 k (n : Int) rk out (i : Int) (wrap64 ((c : Int) - 1)) ((x + 1 : Nat) : Int))) (fun k => by rw [spec_OrderOfRank.l1, if_pos (by omega), w64n x (by omega)]) (Ev.bind hh (Ev_ite_t rfl (ih (x + 1) (by omega) c hc hR)))
    · rw [remn, if_neg hm] at hc hR
      rw [decide_eq_false hm] at hh
      refine Ev.step (f := fun k => (spec_l01Has.f k out (x : Int)).bind fun t => if t = true then spec_OrderOfRank.l1 k (n : Int) rk out (i : Int) (c : Int) ((x + 1 : Nat) : Int) else (if (c : Int) = 0 then (if out.length < 17592186044416 then spec_OrderOfRank.l0 k (n : Int) rk (out ++ [(x : Int)]) (wrap64 ((i : Int) + 1)) else none) else spec_OrderOfRank.l1 k (n : Int) rk out (i : Int) (wrap64 ((c : Int) - 1)) ((x + 1 : Nat) : Int))) (fun k => by rw [spec_OrderOfRank.l1, if_pos (by omega), w64n x (by omega)]) (Ev.bind hh (Ev_ite_f (by simp) ?_))
      cases c with
      | zero =>
        rw [List.getD_cons_zero] at hR
        rw [w64n i (by omega)]
        exact Ev_ite_t rfl (Ev_ite_t (by omega) hR)
      | succ c =>
        rw [List.getD_cons_succ] at hR
        have hc2 := remn_le out d (x + 1)
        rw [List.length_cons] at hc
        rw [w64 (x := ((c + 1 : Nat) : Int) - 1) (by omega) (by omega), show ((c + 1 : Nat) : Int) - 1 = (c : Int) by omega]
        exact Ev_ite_f (by omega) (ih (x + 1) (by omega) c (by omega) hR)
theorem oor_both (n : Nat) (hn : n ≤ 12) : ∀ (e i : Nat), i + e = n → ∀ (r : Nat) (out : List Int), r < fac e → out.length = i → (remn out n 0).length = e →
    ∃ R : List Int, R.length = n ∧ Ev (fun k => spec_OrderOfRank.l0 k (n : Int) (r : Int) out (i : Int)) (R, 0) ∧ Ev (fun k => impl_OrderOfRank.l1 k (r : Int) (remn out n 0) out) (R, 0) := by
  intro e
  induction e with
  | zero =>
    intro i hi r out hr ho hl
    refine ⟨out, by omega, Ev.step (f := fun _ => some (out, 0)) (fun k => by rw [spec_OrderOfRank.l0, if_neg (by omega)]) (Ev.now _), Ev.step (f := fun _ => some (out, 0)) (fun k => by rw [impl_OrderOfRank.l1, if_neg (by omega)]) (Ev.now _)⟩
  | succ e ih =>
    intro i hi r out hr ho hl
    have fb := fac_bd e (by omega)
    rw [fac] at hr
    have hm : r / fac e < e + 1 := Nat.div_lt_of_lt_mul (by rw [Nat.mul_comm]; exact hr)
    have hrm : r % fac e < fac e := Nat.mod_lt _ (by omega)
    have hr13 : (e + 1) * fac e ≤ 13 * 479001600 := Nat.mul_le_mul (by omega) fb.2
    have q1 : Int.tdiv (r : Int) (fac e : Int) = ((r / fac e : Nat) : Int) := by rw [Int.tdiv_eq_ediv_of_nonneg (by omega)]; rfl
    have q2 : Int.tmod (r : Int) (fac e : Int) = ((r % fac e : Nat) : Int) := by rw [Int.tmod_eq_emod_of_nonneg (by omega)]; rfl
    generalize r / fac e = m at hm q1
    generalize r % fac e = s at hrm q2
    have hd := remn_add out ((remn out n 0).getD m 0) n 0
    rw [filter_at _ m (remn_nodup out n 0) (by omega)] at hd
    obtain ⟨R, hR, h1, h2⟩ := ih (i + 1) (by omega) s (out ++ [(remn out n 0).getD m 0]) hrm (by rw [List.length_append, List.length_singleton]; omega) (by rw [hd, List.length_append, List.length_take, List.length_drop]; omega)
    refine ⟨R, hR, ?_, ?_⟩
    · have hp := spec_pick n hn (s : Int) out (by omega) i (by omega) (R, 0) n 0 (by omega) m (by omega) h1
      refine Ev.step (f := fun k => (spec_l01Factorial.f k (e : Int)).bind fun t => if t = 0 then none else spec_OrderOfRank.l1 k (n : Int) (Int.tmod (r : Int) t) out (i : Int) (wrap64 (Int.tdiv (r : Int) t)) 0) (fun k => by rw [spec_OrderOfRank.l0, if_pos (by omega), w64 (x := (n : Int) - i) (by omega) (by omega), w64 (x := (n : Int) - i - 1) (by omega) (by omega), show (n : Int) - i - 1 = (e : Int) by omega]) (Ev.bind (specFac_ev e (by omega)) (Ev_ite_f (by omega) ?_))
      rw [q1, q2, w64 (x := (m : Int)) (by omega) (by omega)]
      exact hp
    · rw [hd] at h2
      refine Ev.step (f := fun k => (impl_factorial.f k (e : Int)).bind fun t => if t = 0 then none else (if 0 ≤ wrap64 (Int.tdiv (r : Int) t) then (if wrap64 (Int.tdiv (r : Int) t) < ((remn out n 0).length : Int) then (if out.length < 17592186044416 then ((slices_Delete_int64_int64.f (remn out n 0) (wrap64 (Int.tdiv (r : Int) t)) (wrap64 (wrap64 (Int.tdiv (r : Int) t) + 1))).bind fun t135 => impl_OrderOfRank.l1 k (Int.tmod (r : Int) t) t135 (out ++ [rd (remn out n 0) (wrap64 (Int.tdiv (r : Int) t))])) else none) else none) else none)) (fun k => by
        rw [impl_OrderOfRank.l1, if_pos (by omega), impl_length_int64.f]
        simp only [Option.bind_some]
        rw [w64 (x := ((remn out n 0).length : Int) - 1) (by omega) (by omega), show ((remn out n 0).length : Int) - 1 = (e : Int) by omega]) (Ev.bind (implFac_ev e (by omega)) (Ev_ite_f (by omega) ?_))
      rw [q1, q2, w64 (x := (m : Int)) (by omega) (by omega), w64n m (by omega)]
      have hdel : slices_Delete_int64_int64.f (remn out n 0) (m : Int) ((m + 1 : Nat) : Int) = some ((remn out n 0).take m ++ (remn out n 0).drop (m + 1)) := by
        unfold slices_Delete_int64_int64.f
        rw [if_pos (by omega), if_pos (by omega), if_pos (by omega), toNat_cast, toNat_cast]
      rw [hdel, rd_nat]
      refine Ev_ite_t (by omega) (Ev_ite_t (by omega) (Ev_ite_t (by omega) ?_))
      simp only [Option.bind_some]
      exact h2
theorem remn_all : ∀ (d x : Nat), (remn [] d x).length = d
  | 0, x => rfl
  | d + 1, x => by rw [remn, if_neg (by simp), List.length_cons, remn_all d (x + 1)]
theorem orderOfRank_both (a b : Int) : ∃ r : List Int × Int, r.1.length ≤ 12 ∧ Ev (fun k => spec_OrderOfRank.f k a b) r ∧ Ev (fun k => impl_OrderOfRank.f k a b) r ∧
    ((∃ n m : Nat, a = n ∧ b = m ∧ n ≤ 12 ∧ m < fac n ∧ r.2 = 0 ∧ r.1.length = n ∧ Ev (fun k => impl_OrderOfRank.l1 k b (remn [] n 0) []) r) ∨ (¬ (0 ≤ a ∧ a ≤ 12 ∧ 0 ≤ b ∧ b < (fac a.toNat : Int)) ∧ r = ([], 2))) := by
  unfold spec_OrderOfRank.f impl_OrderOfRank.f
  rw [l01In_eq, inRange_eq]
  simp only [Option.bind_some, decide_eq_true_eq]
  by_cases ha : 0 ≤ a ∧ a ≤ 12
  · obtain ⟨n, rfl⟩ := Int.eq_ofNat_of_zero_le ha.1
    have fb := fac_bd n (by omega)
    have fs := specFac_ev n (by omega)
    have fi := implFac_ev n (by omega)
    have e1 : wrap64 ((fac n : Int) - 1) = (fac n : Int) - 1 := w64 (by omega) (by omega)
    by_cases hb : 0 ≤ b ∧ b ≤ (fac n : Int) - 1
    · obtain ⟨m, rfl⟩ := Int.eq_ofNat_of_zero_le hb.1
      obtain ⟨R, hR, h1, h2⟩ := oor_both n (by omega) n 0 (by omega) m [] (by omega) rfl (remn_all n 0)
      have build : ∀ (d i : Nat), i + d = n → ∀ acc : List Int, acc.length = i → acc ++ remn [] d i = remn [] n 0 → Ev (fun k => impl_OrderOfRank.l0 k (m : Int) acc [] (n : Int) (i : Int)) (R, 0) := by
        intro d
        induction d with
        | zero =>
          intro i hi acc hl he
          rw [remn, List.append_nil] at he
          subst he
          exact Ev.step (fun k => by rw [impl_OrderOfRank.l0, if_neg (by omega)]) h2
        | succ d ih =>
          intro i hi acc hl he
          refine Ev.step (fun k => ?_) (ih (i + 1) (by omega) (acc ++ [(i : Int)]) (by rw [List.length_append, List.length_singleton]; omega) (by rw [← he, remn, if_neg (by simp), List.append_assoc]; rfl))
          rw [impl_OrderOfRank.l0, if_pos (by omega), if_pos (by omega), w64n i (by omega)]
      refine ⟨(R, 0), by show R.length ≤ 12; omega, Ev_ite_t ha (Ev.bind fs ?_), Ev_ite_t ha (Ev.bind fi ?_), .inl ⟨n, m, rfl, rfl, by omega, by omega, rfl, hR, h2⟩⟩
      · rw [l01In_eq, e1]
        simp only [Option.bind_some]
        rw [decide_eq_true hb]
        exact Ev.step (f := fun k => spec_OrderOfRank.l0 k (n : Int) (m : Int) [] ((0 : Nat) : Int)) (fun k => by rw [spec_OrderOfRank.j0, if_neg (by simp)]; rfl) h1
      · rw [inRange_eq, e1]
        simp only [Option.bind_some]
        rw [decide_eq_true hb]
        exact Ev.step (f := fun k => impl_OrderOfRank.l0 k (m : Int) [] [] (n : Int) ((0 : Nat) : Int)) (fun k => by rw [impl_OrderOfRank.j0, if_neg (by simp)]; rfl) (build n 0 (by omega) [] rfl rfl)
    · refine ⟨([], 2), by simp, Ev_ite_t ha (Ev.bind fs ?_), Ev_ite_t ha (Ev.bind fi ?_), .inr ⟨fun h => hb ⟨h.2.2.1, by rw [toNat_cast] at h; omega⟩, rfl⟩⟩
      · rw [l01In_eq, e1]
        simp only [Option.bind_some]
        rw [decide_eq_false hb]
        exact Ev.step (f := fun _ => some ([], 2)) (fun k => by rw [spec_OrderOfRank.j0, if_pos (by simp)]) (Ev.now _)
      · rw [inRange_eq, e1]
        simp only [Option.bind_some]
        rw [decide_eq_false hb]
        exact Ev.step (f := fun _ => some ([], 2)) (fun k => by rw [impl_OrderOfRank.j0, if_pos (by simp)]) (Ev.now _)
  · refine ⟨([], 2), by simp, Ev_ite_f ha ?_, Ev_ite_f ha ?_, .inr ⟨fun h => ha ⟨h.1, h.2.1⟩, rfl⟩⟩
    · exact Ev.step (f := fun _ => some ([], 2)) (fun k => by rw [spec_OrderOfRank.j0, if_pos rfl]) (Ev.now _)
    · exact Ev.step (f := fun _ => some ([], 2)) (fun k => by rw [impl_OrderOfRank.j0, if_pos rfl]) (Ev.now _)
def ordP (p : List Int) (i : Nat) : Prop := ∀ j : Nat, i ≤ j → j < p.length → 0 ≤ rd p (j : Int) ∧ rd p (j : Int) < p.length ∧ ∀ t : Nat, t < j → rd p (t : Int) ≠ rd p (j : Int)
theorem ordP_end {p : List Int} {i : Nat} (h : p.length ≤ i) : ordP p i := fun j hj hl => by omega
theorem ordP_succ {p : List Int} {i : Nat} (h : i < p.length) : ordP p i ↔ (0 ≤ rd p (i : Int) ∧ rd p (i : Int) < p.length ∧ ∀ t : Nat, t < i → rd p (t : Int) ≠ rd p (i : Int)) ∧ ordP p (i + 1) := by
  constructor
  · intro H
    exact ⟨H i (Nat.le_refl _) h, fun j hj hl => H j (by omega) hl⟩
  · rintro ⟨h1, h2⟩ j hj hl
    by_cases e : i = j
    · subst e; exact h1
    · exact h2 j (by omega) hl
noncomputable def isOrd (p : List Int) : Bool := @decide (p.length ≤ 64 ∧ ordP p 0) (Classical.propDecidable _)
theorem isOrd_iff {p : List Int} : isOrd p = true ↔ p.length ≤ 64 ∧ ordP p 0 := by unfold isOrd; exact @decide_eq_true_iff _ (Classical.propDecidable _)
theorem mem_take_iff (p : List Int) (i : Nat) (hi : i ≤ p.length) (x : Int) : x ∈ p.take i ↔ ∃ t : Nat, t < i ∧ rd p (t : Int) = x := by
  constructor
  · intro h
    obtain ⟨t, ht, e⟩ := List.mem_iff_getElem.1 h
    rw [List.length_take] at ht
    refine ⟨t, by omega, ?_⟩
    rw [rd_get (by omega), ← e, List.getElem_take]
  · rintro ⟨t, ht, e⟩
    rw [← e, ← rd_take ht]
    exact rd_mem (by rw [List.length_take]; omega)
theorem specIsOrder_ev (p : List Int) (hl : p.length ≤ 35184372088832) : Ev (fun k => spec_IsOrder.f k p) (isOrd p) := by
  have loop : ∀ (d i : Nat), i + d = p.length → ∀ b : Bool, (b = true ↔ p.length ≤ 64 ∧ ordP p i) → Ev (fun k => spec_IsOrder.l0 k p (i : Int)) b := by
    intro d
    induction d with
    | zero =>
      intro i hi b hb
      have e : b = decide ((p.length : Int) ≤ 64) := by
        rw [Bool.eq_iff_iff, hb, decide_eq_true_iff]
        constructor
        · rintro ⟨h, _⟩; omega
        · intro h; exact ⟨by omega, ordP_end (by omega)⟩
      rw [e]
      exact Ev.step (f := fun _ => some (decide ((p.length : Int) ≤ 64))) (fun k => by rw [spec_IsOrder.l0, if_neg (by omega)]) (Ev.now _)
    | succ d ih =>
      intro i hi b hb
      have hs := ordP_succ (p := p) (i := i) (by omega)
      refine Ev.step (f := fun k => (some (decide (0 ≤ rd p (i : Int) ∧ rd p (i : Int) ≤ (p.length : Int) - 1))).bind fun t => if t = true then (spec_l01Has.f k (p.take i) (rd p (i : Int))).bind fun t => if t = true then some false else spec_IsOrder.l0 k p ((i + 1 : Nat) : Int) else some false) (fun k => by
        rw [spec_IsOrder.l0, if_pos (by omega), if_pos (by omega), l01In_eq, w64 (x := (p.length : Int) - 1) (by omega) (by omega), w64n i (by omega), toNat_cast]
        simp only [Option.bind_some]
        rw [if_pos (show (i : Int) ≤ (p.length : Int) by omega)]) ?_
      simp only [Option.bind_some, decide_eq_true_eq]
      by_cases h1 : 0 ≤ rd p (i : Int) ∧ rd p (i : Int) ≤ (p.length : Int) - 1
      · refine Ev_ite_t h1 (Ev.bind (l01Has_ev (p.take i) (rd p (i : Int)) (by rw [List.length_take]; omega)) ?_)
        simp only [decide_eq_true_eq]
        by_cases h2 : rd p (i : Int) ∈ p.take i
        · obtain ⟨t, ht, e⟩ := (mem_take_iff p i (by omega) _).1 h2
          obtain rfl : b = false := by
            rw [Bool.eq_false_iff]; intro hbt
            exact (hs.1 (hb.1 hbt).2).1.2.2 t ht e
          exact Ev_ite_t h2 (Ev.now _)
        · refine Ev_ite_f h2 (ih (i + 1) (by omega) b ?_)
          rw [hb, hs]
          constructor
          · rintro ⟨a, _, c⟩; exact ⟨a, c⟩
          · rintro ⟨a, c⟩
            refine ⟨a, ⟨h1.1, by omega, fun t ht e => h2 ((mem_take_iff p i (by omega) _).2 ⟨t, ht, e⟩)⟩, c⟩
      · obtain rfl : b = false := by
          rw [Bool.eq_false_iff]; intro hbt
          have := (hs.1 (hb.1 hbt).2).1
          exact h1 ⟨this.1, by omega⟩
        exact Ev_ite_f h1 (Ev.now _)
  exact Ev.congr (fun k => rfl) (loop p.length 0 (by omega) _ isOrd_iff)
theorem rdOf_set {α : Type} {z : α} {xs : List α} {i j : Nat} {v : α} (hi : i < xs.length) : rdOf z (xs.set i v) (j : Int) = if i = j then v else rdOf z xs (j : Int) := by
  simp only [rdOf, toNat_cast, List.getD_eq_getElem?_getD, List.getElem?_set]
  by_cases h : i = j
  · subst h; simp [hi]
  · simp [h]
theorem implIsOrder_ev (p : List Int) (hl : p.length ≤ 35184372088832) : Ev (fun k => impl_IsOrder.f k p) (isOrd p) := by
  by_cases h64 : p.length ≤ 64
  · have loop : ∀ (d i : Nat), i + d = p.length → ∀ seen : List Bool, seen.length = p.length → (∀ v : Nat, v < p.length → (rdOf false seen (v : Int) = true ↔ ∃ t : Nat, t < i ∧ rd p (t : Int) = v)) →
        ∀ b : Bool, (b = true ↔ ordP p i) → Ev (fun k => impl_IsOrder.l0 k p seen p (p.length : Int) (i : Int)) b := by
      intro d
      induction d with
      | zero =>
        intro i hi seen _ _ b hb
        obtain rfl : b = true := hb.2 (ordP_end (by omega))
        exact Ev.step (f := fun _ => some true) (fun k => by rw [impl_IsOrder.l0, if_neg (by omega)]) (Ev.now _)
      | succ d ih =>
        intro i hi seen hsl hseen b hb
        have hs := ordP_succ (p := p) (i := i) (by omega)
        refine Ev.step (f := fun k => (some (decide (0 ≤ rd p (i : Int) ∧ rd p (i : Int) ≤ (p.length : Int) - 1))).bind fun t => if t = true then (if 0 ≤ rd p (i : Int) then (if rd p (i : Int) < (seen.length : Int) then (if rdOf false seen (rd p (i : Int)) = true then some false else impl_IsOrder.l0 k p (seen.set (rd p (i : Int)).toNat true) p (p.length : Int) ((i + 1 : Nat) : Int)) else none) else none) else some false) (fun k => by
          rw [impl_IsOrder.l0, if_pos (by omega), if_pos (by omega), if_pos (by omega), impl_length_int64.f]
          simp only [Option.bind_some]
          rw [inRange_eq, w64 (x := (p.length : Int) - 1) (by omega) (by omega), w64n i (by omega)]; rfl) ?_
        simp only [Option.bind_some, decide_eq_true_eq]
        by_cases h1 : 0 ≤ rd p (i : Int) ∧ rd p (i : Int) ≤ (p.length : Int) - 1
        · obtain ⟨v, hv⟩ := Int.eq_ofNat_of_zero_le h1.1
          refine Ev_ite_t h1 (Ev_ite_t h1.1 (Ev_ite_t (by omega) ?_))
          rw [hv, toNat_cast]
          rw [hv] at h1 hs
          have hsv := hseen v (by omega)
          by_cases h2 : rdOf false seen (v : Int) = true
          · obtain ⟨t, ht, e⟩ := hsv.1 h2
            obtain rfl : b = false := by
              rw [Bool.eq_false_iff]; intro hbt
              exact (hs.1 (hb.1 hbt)).1.2.2 t ht e
            exact Ev_ite_t h2 (Ev.now _)
          · refine Ev_ite_f h2 (ih (i + 1) (by omega) _ (by rw [List.length_set]; exact hsl) (fun u hu => ?_) b ?_)
            · rw [rdOf_set (by omega)]
              by_cases e : v = u
              · subst e
                simp only [if_true, true_iff]
                exact ⟨i, by omega, hv⟩
              · rw [if_neg e, hseen u hu]
                constructor
                · rintro ⟨t, ht, et⟩; exact ⟨t, by omega, et⟩
                · rintro ⟨t, ht, et⟩
                  by_cases e2 : t = i
                  · subst e2; rw [hv] at et; omega
                  · exact ⟨t, by omega, et⟩
            · rw [hb, hs]
              constructor
              · rintro ⟨_, c⟩; exact c
              · intro c
                refine ⟨⟨h1.1, by omega, fun t ht e => h2 (hsv.2 ⟨t, ht, e⟩)⟩, c⟩
        · obtain rfl : b = false := by
            rw [Bool.eq_false_iff]; intro hbt
            have := (hs.1 (hb.1 hbt)).1
            exact h1 ⟨this.1, by omega⟩
          exact Ev_ite_f h1 (Ev.now _)
    refine Ev.congr (fun k => ?_) (loop p.length 0 (by omega) (List.replicate p.length false) (by simp) (fun v hv => ?_) (isOrd p) (by rw [isOrd_iff]; exact ⟨fun h => h.2, fun h => ⟨h64, h⟩⟩))
    · simp only [impl_IsOrder.f, toNat_cast]
      rw [if_neg (by omega), if_pos (by omega), if_pos (by omega)]
      rfl
    · constructor
      · intro h; simp [rdOf, List.getD_eq_getElem?_getD, List.getElem?_replicate, hv] at h
      · rintro ⟨t, ht, _⟩; omega
  · obtain e : isOrd p = false := by
      rw [Bool.eq_false_iff]; intro h; exact h64 (isOrd_iff.1 h).1
    rw [e]
    refine Ev.congr (f := fun _ => some false) (fun k => ?_) (Ev.now _)
    simp only [impl_IsOrder.f]
    rw [if_pos (by omega)]
def cnt (l : List Int) (x : Int) : Nat := l.countP fun y => decide (y < x)
theorem cnt_cons (l : List Int) (y x : Int) : cnt (y :: l) x = cnt l x + if y < x then 1 else 0 := by
  unfold cnt; rw [List.countP_cons]; simp
theorem cnt_le (l : List Int) (x : Int) : cnt l x ≤ l.length := List.countP_le_length
def rkS : List Int → Int → Int
  | [], s => s
  | x :: t, s => rkS t (s + (cnt t x : Int) * (fac t.length : Int))
theorem specRank_loop (p : List Int) (h12 : p.length ≤ 12) : ∀ (d i : Nat), i + d = p.length → ∀ s : Int, Ev (fun k => spec_RankOrder.l0 k p (wrap64 s) (i : Int)) (wrap64 (rkS (p.drop i) s), 0) := by
  intro d
  induction d with
  | zero =>
    intro i hi s
    rw [List.drop_of_length_le (by omega), rkS]
    exact Ev.step (f := fun _ => some (wrap64 s, 0)) (fun k => by rw [spec_RankOrder.l0, if_neg (by omega)]) (Ev.now _)
  | succ d ih =>
    intro i hi s
    have inner : ∀ (e j : Nat), j + e = p.length → ∀ c : Nat, c ≤ j → Ev (fun k => spec_RankOrder.l1 k p (wrap64 s) (i : Int) (c : Int) (j : Int)) (wrap64 (rkS (p.drop (i + 1)) (s + ((c + cnt (p.drop j) (rd p (i : Int)) : Nat) : Int) * (fac (p.length - i - 1) : Int))), 0) := by
      intro e
      induction e with
      | zero =>
        intro j hj c hc
        rw [show p.drop j = [] from List.drop_of_length_le (by omega)]
        have hz : cnt [] (rd p (i : Int)) = 0 := rfl
        rw [hz, Nat.add_zero]
        refine Ev.step (f := fun k => (spec_l01Factorial.f k ((p.length - i - 1 : Nat) : Int)).bind fun t => spec_RankOrder.l0 k p (wrap64 (wrap64 s + wrap64 ((c : Int) * t))) ((i + 1 : Nat) : Int)) (fun k => ?_) ?_
        · rw [spec_RankOrder.l1, if_neg (by omega), w64 (x := (p.length : Int) - i) (by omega) (by omega), w64 (x := (p.length : Int) - i - 1) (by omega) (by omega), w64n i (by omega), show (p.length : Int) - i - 1 = ((p.length - i - 1 : Nat) : Int) by omega]
        · refine Ev.bind (specFac_ev _ (by omega)) ?_
          rw [wrap_add_wrap, wrap_add_wrap']
          exact ih (i + 1) (by omega) _
      | succ e ih2 =>
        intro j hj c hc
        rw [drop_cons (xs := p) (show j < p.length by omega), cnt_cons]
        by_cases h : rd p (j : Int) < rd p (i : Int)
        · have := ih2 (j + 1) (by omega) (c + 1) (by omega)
          rw [if_pos h, show c + (cnt (p.drop (j + 1)) (rd p (i : Int)) + 1) = c + 1 + cnt (p.drop (j + 1)) (rd p (i : Int)) by omega]
          refine Ev.step (fun k => ?_) this
          rw [spec_RankOrder.l1, if_pos (by omega), if_pos (by omega), if_pos (by omega), if_pos (by omega), if_pos h, w64n j (by omega), w64n c (by omega)]
        · have := ih2 (j + 1) (by omega) c (by omega)
          rw [if_neg h, Nat.add_zero]
          refine Ev.step (fun k => ?_) this
          rw [spec_RankOrder.l1, if_pos (by omega), if_pos (by omega), if_pos (by omega), if_pos (by omega), if_neg h, w64n j (by omega)]
    rw [drop_cons (xs := p) (show i < p.length by omega), rkS]
    have := inner d (i + 1) (by omega) 0 (by omega)
    rw [Nat.zero_add, show p.length - i - 1 = (p.drop (i + 1)).length by rw [List.length_drop]; omega] at this
    exact Ev.step (fun k => by rw [spec_RankOrder.l0, if_pos (by omega), w64n i (by omega)]; rfl) this
theorem implRank_loop (p : List Int) (h12 : p.length ≤ 12) : ∀ (d i : Nat), i + d = p.length → ∀ s : Int, Ev (fun k => impl_RankOrder.l0 k p (wrap64 s) p (p.length : Int) (i : Int)) (wrap64 (rkS (p.drop i) s), 0) := by
  intro d
  induction d with
  | zero =>
    intro i hi s
    rw [List.drop_of_length_le (by omega), rkS]
    exact Ev.step (f := fun _ => some (wrap64 s, 0)) (fun k => by rw [impl_RankOrder.l0, if_neg (by omega)]) (Ev.now _)
  | succ d ih =>
    intro i hi s
    have hlen : (p.drop (i + 1)).length = d := by rw [List.length_drop]; omega
    have inner : ∀ (e j : Nat), j + e = d → ∀ s : Int, Ev (fun k => impl_RankOrder.l1 k p (wrap64 s) (i : Int) (rd p (i : Int)) p (p.length : Int) (i : Int) (p.drop (i + 1)) ((p.drop (i + 1)).length : Int) (j : Int)) (wrap64 (rkS (p.drop (i + 1)) (s + (cnt ((p.drop (i + 1)).drop j) (rd p (i : Int)) : Int) * (fac d : Int))), 0) := by
      intro e
      induction e with
      | zero =>
        intro j hj s
        rw [show (p.drop (i + 1)).drop j = [] from List.drop_of_length_le (by omega)]
        have hz : ((cnt [] (rd p (i : Int)) : Nat) : Int) = 0 := rfl
        rw [hz, Int.zero_mul, Int.add_zero]
        refine Ev.step (fun k => ?_) (ih (i + 1) (by omega) s)
        rw [impl_RankOrder.l1, if_neg (by omega), w64n i (by omega)]
      | succ e ih2 =>
        intro j hj s
        rw [drop_cons (xs := p.drop (i + 1)) (show j < (p.drop (i + 1)).length by omega), cnt_cons]
        by_cases h : rd (p.drop (i + 1)) (j : Int) < rd p (i : Int)
        · have := ih2 (j + 1) (by omega) (s + (fac d : Int))
          rw [if_pos h, Int.natCast_add, Int.add_mul, show ((1 : Nat) : Int) * (fac d : Int) = (fac d : Int) by omega]
          rw [show s + ((cnt ((p.drop (i + 1)).drop (j + 1)) (rd p (i : Int)) : Int) * (fac d : Int) + (fac d : Int)) = s + (fac d : Int) + (cnt ((p.drop (i + 1)).drop (j + 1)) (rd p (i : Int)) : Int) * (fac d : Int) by omega]
          refine Ev.step (f := fun k => (impl_factorial.f k (d : Int)).bind fun t => impl_RankOrder.l1 k p (wrap64 (wrap64 s + t)) (i : Int) (rd p (i : Int)) p (p.length : Int) (i : Int) (p.drop (i + 1)) ((p.drop (i + 1)).length : Int) ((j + 1 : Nat) : Int)) (fun k => ?_) ?_
          · rw [impl_RankOrder.l1, if_pos (by omega), if_pos (by omega), if_pos (by omega), if_pos h, w64n j (by omega), w64 (x := (p.length : Int) - i) (by omega) (by omega), w64 (x := (p.length : Int) - i - 1) (by omega) (by omega), show (p.length : Int) - i - 1 = (d : Int) by omega]
          · refine Ev.bind (implFac_ev d (by omega)) ?_
            rw [wrap_add_wrap]
            exact this
        · have := ih2 (j + 1) (by omega) s
          rw [if_neg h, Nat.add_zero]
          refine Ev.step (fun k => ?_) this
          rw [impl_RankOrder.l1, if_pos (by omega), if_pos (by omega), if_pos (by omega), if_neg h, w64n j (by omega)]
    have := inner d 0 (by omega) s
    rw [List.drop_zero] at this
    rw [drop_cons (xs := p) (show i < p.length by omega), rkS, hlen]
    refine Ev.step (fun k => ?_) this
    rw [impl_RankOrder.l0, if_pos (by omega), if_pos (by omega), if_pos (by omega), w64n i (by omega), if_pos (by omega), if_pos (by omega), toNat_cast]
    rfl
theorem rank_both (p : List Int) (hl : p.length ≤ 35184372088832) : ∃ r : Int × Int, Ev (fun k => spec_RankOrder.f k p) r ∧ Ev (fun k => impl_RankOrder.f k p) r ∧
    ((isOrd p = true ∧ p.length ≤ 12 ∧ r = (wrap64 (rkS p 0), 0)) ∨ (¬ (isOrd p = true ∧ p.length ≤ 12) ∧ (r = (0, 1) ∨ r = (0, 3)))) := by
  unfold spec_RankOrder.f impl_RankOrder.f
  by_cases h : isOrd p = true
  · by_cases h2 : (p.length : Int) > 12
    · exact ⟨(0, 3), Ev.bind (specIsOrder_ev p hl) (Ev_ite_t h (Ev_ite_t h2 (Ev.now _))), Ev.bind (implIsOrder_ev p hl) (Ev_ite_t h (Ev_ite_t h2 (Ev.now _))), .inr ⟨fun x => by omega, .inr rfl⟩⟩
    · have a := specRank_loop p (by omega) p.length 0 (by omega) 0
      have b := implRank_loop p (by omega) p.length 0 (by omega) 0
      rw [List.drop_zero, wz] at a b
      exact ⟨_, Ev.bind (specIsOrder_ev p hl) (Ev_ite_t h (Ev_ite_f h2 (Ev.congr (fun k => rfl) a))), Ev.bind (implIsOrder_ev p hl) (Ev_ite_t h (Ev_ite_f h2 (Ev.congr (fun k => rfl) b))), .inl ⟨h, by omega, rfl⟩⟩
  · exact ⟨(0, 1), Ev.bind (specIsOrder_ev p hl) (Ev_ite_f h (Ev.now _)), Ev.bind (implIsOrder_ev p hl) (Ev_ite_f h (Ev.now _)), .inr ⟨fun x => h x.1, .inl rfl⟩⟩
theorem pigeon : ∀ (n : Nat) (f : Nat → Nat), (∀ i, i < n → f i < n) → (∀ i j, i < n → j < n → f i = f j → i = j) → ∀ m, m < n → ∃ i, i < n ∧ f i = m
  | 0, f, _, _, m, hm => absurd hm (Nat.not_lt_zero _)
  | n + 1, f, h1, h2, m, hm => by
    by_cases hn : ∃ i, i < n ∧ f i = n
    · obtain ⟨i0, g1, g2⟩ := hn
      have hne : f n ≠ n := fun e => by have := h2 n i0 (by omega) (by omega) (by omega); omega
      have hfn : f n < n := by have := h1 n (by omega); omega
      have ih := pigeon n (fun i => if f i = n then f n else f i) (fun i hi => by
        by_cases e : f i = n
        · simp only [e, if_true]; exact hfn
        · simp only [if_neg e]; have := h1 i (by omega); omega) (fun i j hi hj e => by
        by_cases ei : f i = n
        · by_cases ej : f j = n
          · exact h2 i j (by omega) (by omega) (by omega)
          · simp only [if_pos ei, if_neg ej] at e
            have := h2 n j (by omega) (by omega) e
            omega
        · by_cases ej : f j = n
          · simp only [if_neg ei, if_pos ej] at e
            have := h2 i n (by omega) (by omega) e
            omega
          · simp only [if_neg ei, if_neg ej] at e
            exact h2 i j (by omega) (by omega) e)
      by_cases em : m = n
      · exact ⟨i0, by omega, by omega⟩
      · obtain ⟨i, hi, e⟩ := ih m (by omega)
        by_cases ei : f i = n
        · simp only [if_pos ei] at e; exact ⟨n, by omega, e⟩
        · simp only [if_neg ei] at e; exact ⟨i, by omega, e⟩
    · have hlt : ∀ i, i < n → f i < n := fun i hi => by
        have := h1 i (by omega)
        have : f i ≠ n := fun e => hn ⟨i, hi, e⟩
        omega
      have ih := pigeon n f hlt (fun i j hi hj e => h2 i j (by omega) (by omega) e)
      have hfn : f n = n := by
        have := h1 n (by omega)
        by_cases e : f n = n
        · exact e
        · obtain ⟨i, hi, e2⟩ := ih (f n) (by omega)
          have := h2 i n (by omega) (by omega) e2
          omega
      by_cases em : m = n
      · exact ⟨n, by omega, by omega⟩
      · obtain ⟨i, hi, e⟩ := ih m (by omega)
        exact ⟨i, by omega, e⟩
theorem ord_at {p : List Int} (h : isOrd p = true) (j : Nat) (hj : j < p.length) : 0 ≤ rd p (j : Int) ∧ rd p (j : Int) < p.length := by
  obtain ⟨_, ho⟩ := isOrd_iff.1 h
  have := ho j (by omega) hj
  exact ⟨this.1, this.2.1⟩
theorem ord_inj {p : List Int} (h : isOrd p = true) {i j : Nat} (hi : i < p.length) (hj : j < p.length) (e : rd p (i : Int) = rd p (j : Int)) : i = j := by
  obtain ⟨_, ho⟩ := isOrd_iff.1 h
  by_cases h1 : i < j
  · exact absurd e ((ho j (by omega) hj).2.2 i h1)
  by_cases h2 : j < i
  · exact absurd e.symm ((ho i (by omega) hi).2.2 j h2)
  · omega
theorem ord_surj {p : List Int} (h : isOrd p = true) (m : Nat) (hm : m < p.length) : ∃ j : Nat, j < p.length ∧ rd p (j : Int) = m := by
  obtain ⟨j, hj, e⟩ := pigeon p.length (fun i => (rd p (i : Int)).toNat) (fun i hi => by have := ord_at h i hi; omega) (fun i j hi hj e => ord_inj h hi hj (by have := ord_at h i hi; have := ord_at h j hj; omega)) m hm
  have := ord_at h j hj
  exact ⟨j, hj, by omega⟩
theorem isOrd_of {p : List Int} (hl : p.length ≤ 64) (h1 : ∀ j : Nat, j < p.length → 0 ≤ rd p (j : Int) ∧ rd p (j : Int) < p.length) (h2 : ∀ i j : Nat, i < p.length → j < p.length → rd p (i : Int) = rd p (j : Int) → i = j) : isOrd p = true := by
  rw [isOrd_iff]
  refine ⟨hl, fun j _ hj => ⟨(h1 j hj).1, (h1 j hj).2, fun t ht e => ?_⟩⟩
  have := h2 t j (by omega) hj e
  omega
def Src (c : List Int) (a s : Int) : Prop := c.length ≤ 4096 ∧ (∀ x ∈ c, 0 ≤ x ∧ x ≤ 255) ∧ 0 ≤ a ∧ a ≤ c.length ∧ 0 ≤ s ∧ s < 2147483647
theorem tmod_range {x m : Int} (h : 0 ≤ x) (hm : 0 < m) : 0 ≤ Int.tmod x m ∧ Int.tmod x m < m := ⟨Int.tmod_nonneg _ h, Int.tmod_lt_of_pos _ hm⟩
theorem rd_byte {c : List Int} (hc : ∀ x ∈ c, 0 ≤ x ∧ x ≤ 255) (i : Int) : 0 ≤ rd c i ∧ rd c i ≤ 255 := by
  unfold rd
  by_cases h : i.toNat < c.length
  · simp only [List.getD_eq_getElem?_getD, List.getElem?_eq_getElem h, Option.getD_some]
    exact hc _ (List.getElem_mem h)
  · simp only [List.getD_eq_getElem?_getD, List.getElem?_eq_none (Nat.le_of_not_lt h), Option.getD_none]
    omega
theorem next_ok {c : List Int} {a s : Int} (h : Src c a s) (n : Int) (hn : n ≤ 9000000000000000000) :
    ∃ r a' s', spec_l01Next.f c a s n = some (r, a', s') ∧ Src c a' s' ∧ 0 ≤ r ∧ (1 ≤ n → r < n) := by
  obtain ⟨h1, h2, h3, h4, h5, h6⟩ := h
  unfold spec_l01Next.f
  by_cases hn1 : n ≤ 1
  · rw [if_pos hn1]
    exact ⟨0, a, s, rfl, ⟨h1, h2, h3, h4, h5, h6⟩, by omega, by omega⟩
  · rw [if_neg hn1]
    have e1 : wrap64 (wrap64 (s * 48271) + 61) = s * 48271 + 61 := by rw [w64 (x := s * 48271) (by omega) (by omega), w64 (by omega) (by omega)]
    rw [e1]
    have m1 := tmod_range (x := s * 48271 + 61) (m := 2147483647) (by omega) (by omega)
    generalize Int.tmod (s * 48271 + 61) 2147483647 = s1 at *
    have d1 : 0 ≤ Int.tdiv s1 31 ∧ Int.tdiv s1 31 ≤ 2147483647 := by
      rw [Int.tdiv_eq_ediv_of_nonneg m1.1]; omega
    rw [w64 (x := Int.tdiv s1 31) (by omega) (by omega)]
    generalize Int.tdiv s1 31 = q at *
    by_cases ha : a < (c.length : Int)
    · have e2 : wrap64 (a + 1) = a + 1 := w64 (by omega) (by omega)
      have e3 : wrap64 (a + 1 - 1) = a := by rw [w64 (by omega) (by omega)]; omega
      have b1 := rd_byte h2 a
      rw [if_pos ha, if_pos h3, e2, e3, w64 (x := rd c a) (by omega) (by omega), w64 (x := q + rd c a) (by omega) (by omega)]
      have r1 := tmod_range (x := rd c a) (m := n) b1.1 (by omega)
      have r2 := tmod_range (x := q + rd c a) (m := n) (by omega) (by omega)
      have hs : Src c (a + 1) s1 := ⟨h1, h2, by omega, by omega, m1.1, m1.2⟩
      by_cases hb : n ≤ 256
      · rw [if_pos hb]
        by_cases hc : Int.tmod (a + 1) 2 = 0
        · rw [if_pos hc, if_pos h3, if_pos ha, if_neg (by omega)]
          exact ⟨_, _, _, rfl, hs, r1.1, fun _ => r1.2⟩
        · rw [if_neg hc, if_neg (by omega)]
          exact ⟨_, _, _, rfl, hs, r2.1, fun _ => r2.2⟩
      · rw [if_neg hb, if_neg (by omega)]
        exact ⟨_, _, _, rfl, hs, r2.1, fun _ => r2.2⟩
    · rw [if_neg ha, if_neg (by omega)]
      have r1 := tmod_range (x := q) (m := n) (by omega) (by omega)
      exact ⟨_, _, _, rfl, ⟨h1, h2, h3, h4, m1.1, m1.2⟩, r1.1, fun _ => r1.2⟩
theorem from_ok (c : List Int) (hc : c.length ≤ 4096) (hb : ∀ x ∈ c, 0 ≤ x ∧ x ≤ 255) : ∃ a s, Ev (fun k => spec_l01From.f k c) (c, a, s) ∧ Src c a s := by
  have loop : ∀ (d i : Nat), i + d = c.length → ∀ s : Int, 0 ≤ s → s < 2147483647 → ∃ s', 0 ≤ s' ∧ s' < 2147483647 ∧ Ev (fun k => spec_l01From.l0 k c (i : Int) c 0 s) (c, 0, s') := by
    intro d
    induction d with
    | zero =>
      intro i hi s h0 h1
      exact ⟨s, h0, h1, Ev.step (f := fun _ => some (c, 0, s)) (fun k => by rw [spec_l01From.l0, if_neg (by omega)]) (Ev.now _)⟩
    | succ d ih =>
      intro i hi s h0 h1
      by_cases h64 : i < 64
      · have b1 := rd_byte hb (i : Int)
        have e1 : wrap64 (wrap64 (s * 71) + wrap64 (rd c (i : Int))) = s * 71 + rd c (i : Int) := by
          rw [w64 (x := s * 71) (by omega) (by omega), w64 (x := rd c (i : Int)) (by omega) (by omega), w64 (by omega) (by omega)]
        have m1 := tmod_range (x := s * 71 + rd c (i : Int)) (m := 2147483647) (by omega) (by omega)
        obtain ⟨s', g0, g1, g2⟩ := ih (i + 1) (by omega) (Int.tmod (s * 71 + rd c (i : Int)) 2147483647) m1.1 m1.2
        refine ⟨s', g0, g1, Ev.step (fun k => ?_) g2⟩
        rw [spec_l01From.l0, if_pos (by omega), if_pos (by omega), if_pos (by omega), w64n i (by omega), e1]
      · exact ⟨s, h0, h1, Ev.step (f := fun _ => some (c, 0, s)) (fun k => by rw [spec_l01From.l0, if_pos (by omega), if_neg (by omega)]) (Ev.now _)⟩
  obtain ⟨s', g0, g1, g2⟩ := loop c.length 0 (by omega) 88007 (by omega) (by omega)
  exact ⟨0, s', Ev.congr (fun k => rfl) g2, hc, hb, by omega, by omega, g0, g1⟩
theorem pick_ok {c : List Int} {a s : Int} (h : Src c a s) (l : List Int) (h0 : 0 < l.length) (h1 : l.length ≤ 1000) :
    ∃ r a' s', spec_l01Pick.f c a s l = some (r, a', s') ∧ Src c a' s' ∧ r ∈ l := by
  obtain ⟨r, a', s', e, hs, h2, h3⟩ := next_ok h (l.length : Int) (by omega)
  have h4 := h3 (by omega)
  unfold spec_l01Pick.f
  rw [e]
  simp only [Option.bind_some]
  rw [if_pos h2, if_pos h4]
  refine ⟨_, _, _, rfl, hs, ?_⟩
  obtain ⟨m, rfl⟩ := Int.eq_ofNat_of_zero_le h2
  exact rd_mem (by omega)
theorem drawOf_ok {c : List Int} {a s : Int} (h0 : Src c a s) (n : Nat) (hn : n ≤ 1000) : ∃ l a' s', Ev (fun k => spec_l01DrawOf.f k c a s (n : Int)) (l, a', s') ∧ Src c a' s' ∧ l.length = n := by
  have loop : ∀ (d i : Nat), i + d = n → ∀ (l : List Int) (a s : Int), Src c a s → l.length = i → ∃ l' a' s', Ev (fun k => spec_l01DrawOf.l0 k (n : Int) l (i : Int) c a s) (l', a', s') ∧ Src c a' s' ∧ l'.length = n := by
    intro d
    induction d with
    | zero =>
      intro i hi l a s hs hl
      exact ⟨l, a, s, Ev.step (f := fun _ => some (l, a, s)) (fun k => by rw [spec_l01DrawOf.l0, if_neg (by omega)]) (Ev.now _), hs, by omega⟩
    | succ d ih =>
      intro i hi l a s hs hl
      obtain ⟨r, a1, s1, e1, h1, p1, q1⟩ := next_ok hs ((i + 1 : Nat) : Int) (by omega)
      have q1' := q1 (by omega)
      obtain ⟨m, rfl⟩ := Int.eq_ofNat_of_zero_le p1
      have hm : m ≤ l.length := by omega
      have hlen : (l.take m ++ [(i : Int)] ++ l.drop m).length = i + 1 := by rw [List.length_append, List.length_append, List.length_take, List.length_drop, List.length_singleton]; omega
      obtain ⟨l', a', s', z1, z2, z3⟩ := ih (i + 1) (by omega) (l.take m ++ [(i : Int)] ++ l.drop m) a1 s1 h1 hlen
      refine ⟨l', a', s', Ev.step (fun k => ?_) z1, z2, z3⟩
      have l1 : (l.take m).length ≤ 1000 := by rw [List.length_take]; omega
      have l2 : (l.take m ++ [(i : Int)]).length ≤ 1001 := by rw [List.length_append, List.length_singleton]; omega
      have l3 : (l.drop m).length ≤ 1000 := by rw [List.length_drop]; omega
      have o : spec_l01Own.f (l.take m) = some (l.take m) := by
        unfold spec_l01Own.f
        simp only [Option.bind_some, List.nil_append, List.length_nil]
        rw [if_pos (by omega)]
      rw [spec_l01DrawOf.l0, if_pos (by omega), w64n i (by omega), e1]
      simp only [Option.bind_some, toNat_cast]
      rw [if_pos (show (0 : Int) ≤ (m : Int) by omega), if_pos (show (m : Int) ≤ (l.length : Int) by omega), o]
      simp only [Option.bind_some, List.length_singleton]
      rw [if_pos (show (l.take m).length + 1 < 17592186044416 by omega), if_pos (show (l.take m ++ [(i : Int)]).length + (l.drop m).length < 17592186044416 by omega)]
  obtain ⟨l', a', s', z1, z2, z3⟩ := loop n 0 (by omega) [] a s h0 rfl
  exact ⟨l', a', s', Ev.congr (fun k => rfl) z1, z2, z3⟩
theorem drawOrder_ok {c : List Int} {a s : Int} (h0 : Src c a s) : ∃ l a' s', Ev (fun k => spec_l01DrawOrder.f k c a s) (l, a', s') ∧ Src c a' s' ∧ l.length ≤ 100 := by
  obtain ⟨r1, a1, s1, e1, h1, m1⟩ := pick_ok h0 [6, 9, 14] (by simp) (by simp)
  have m1' : 6 ≤ r1 ∧ r1 ≤ 14 := by simp at m1; omega
  obtain ⟨r2, a2, s2, e2, h2, p2, q2⟩ := next_ok h1 r1 (by omega)
  have q2' := q2 (by omega)
  obtain ⟨n2, rfl⟩ := Int.eq_ofNat_of_zero_le p2
  obtain ⟨l, a3, s3, e3, h3, hl⟩ := drawOf_ok h2 n2 (by omega)
  obtain ⟨r4, a4, s4, e4, h4, p4, q4⟩ := next_ok h3 24 (by omega)
  unfold spec_l01DrawOrder.f
  simp only [e1, e2, Option.bind_some]
  by_cases c0 : r4 = 0
  · obtain ⟨r5, a5, s5, e5, h5, m5⟩ := pick_ok h4 [(-1), 0, (l.length : Int), wrap64 ((l.length : Int) + 1)] (by simp) (by simp)
    refine ⟨l ++ [r5], a5, s5, Ev.bind e3 ?_, h5, by rw [List.length_append, List.length_singleton]; omega⟩
    simp only [e4, Option.bind_some, if_pos c0, e5]
    exact Ev_ite_t (by omega) (Ev.now _)
  by_cases c1 : r4 = 1
  · obtain ⟨r5, a5, s5, e5, h5, p5, q5⟩ := next_ok h4 2 (by omega)
    have q5' := q5 (by omega)
    obtain ⟨l', a6, s6, e6, h6, l6⟩ := drawOf_ok h5 (64 + r5.toNat) (by omega)
    refine ⟨l', a6, s6, Ev.bind e3 ?_, h6, by omega⟩
    simp only [e4, Option.bind_some, if_neg c0, if_pos c1, e5]
    rw [show wrap64 (64 + r5) = ((64 + r5.toNat : Nat) : Int) by rw [w64 (by omega) (by omega)]; omega]
    exact Ev.bind e6 (Ev.now _)
  · refine ⟨l, a4, s4, Ev.bind e3 ?_, h4, by omega⟩
    simp only [e4, Option.bind_some, if_neg c0, if_neg c1]
    exact Ev.now _
theorem likeInts_ev (l : List Int) (hl : l.length ≤ 35184372088832) : Ev (fun k => laws_likeInts.f k l l) true := by
  have loop : ∀ (d i : Nat), i + d = l.length → Ev (fun k => laws_likeInts.l0 k l l (i : Int)) true := by
    intro d
    induction d with
    | zero =>
      intro i hi
      refine Ev.step (f := fun _ => some true) (fun k => by rw [laws_likeInts.l0, if_neg (by omega)]) (Ev.now _)
    | succ d ih =>
      intro i hi
      refine Ev.step (f := fun k => laws_likeInts.l0 k l l ((i + 1 : Nat) : Int)) (fun k => by rw [laws_likeInts.l0, if_pos (by omega), if_pos (by omega), if_pos (by omega), if_pos rfl, w64n i (by omega)]) ?_
      exact ih (i + 1) (by omega)
  refine Ev.congr (f := fun k => laws_likeInts.l0 k l l ((0 : Nat) : Int)) (fun k => ?_) (loop l.length 0 (by omega))
  simp only [laws_likeInts.f, if_true]
  rfl
theorem ev_uniq {α : Type} {f : Nat → Option α} {a b : α} (h : Ev f a) (h' : Ev f b) : a = b := by
  obtain ⟨k, h⟩ := h
  obtain ⟨k', h'⟩ := h'
  have e1 := h (max k k') (Nat.le_max_left _ _)
  have e2 := h' (max k k') (Nat.le_max_right _ _)
  rw [e1] at e2
  exact Option.some.inj e2
def oor : Nat → List Int → Nat → List Int
  | 0, _, _ => []
  | e + 1, L, r => L.getD (r / fac e) 0 :: oor e (L.take (r / fac e) ++ L.drop (r / fac e + 1)) (r % fac e)
theorem oor_len : ∀ (e : Nat) (L : List Int) (r : Nat), (oor e L r).length = e
  | 0, _, _ => rfl
  | e + 1, L, r => by rw [oor, List.length_cons, oor_len e]
theorem oor_ev : ∀ (e : Nat), e ≤ 12 → ∀ (r : Nat) (L out : List Int), r < fac e → L.length = e → out.length + e ≤ 100 → Ev (fun k => impl_OrderOfRank.l1 k (r : Int) L out) (out ++ oor e L r, 0) := by
  intro e
  induction e with
  | zero =>
    intro _ r L out hr hl ho
    rw [oor, List.append_nil]
    exact Ev.step (f := fun _ => some (out, 0)) (fun k => by rw [impl_OrderOfRank.l1, if_neg (by omega)]) (Ev.now _)
  | succ e ih =>
    intro he r L out hr hl ho
    have fb := fac_bd e (by omega)
    rw [fac] at hr
    have hm : r / fac e < e + 1 := Nat.div_lt_of_lt_mul (by rw [Nat.mul_comm]; exact hr)
    have hrm : r % fac e < fac e := Nat.mod_lt _ (by omega)
    have hr13 : (e + 1) * fac e ≤ 13 * 479001600 := Nat.mul_le_mul (by omega) fb.2
    have q1 : Int.tdiv (r : Int) (fac e : Int) = ((r / fac e : Nat) : Int) := by rw [Int.tdiv_eq_ediv_of_nonneg (by omega)]; rfl
    have q2 : Int.tmod (r : Int) (fac e : Int) = ((r % fac e : Nat) : Int) := by rw [Int.tmod_eq_emod_of_nonneg (by omega)]; rfl
    rw [oor]
    generalize r / fac e = m at hm q1
    generalize r % fac e = s at hrm q2
    have h2 := ih (by omega) s (L.take m ++ L.drop (m + 1)) (out ++ [L.getD m 0]) hrm (by rw [List.length_append, List.length_take, List.length_drop]; omega) (by rw [List.length_append, List.length_singleton]; omega)
    rw [List.append_assoc] at h2
    refine Ev.step (f := fun k => (impl_factorial.f k (e : Int)).bind fun t => if t = 0 then none else (if 0 ≤ wrap64 (Int.tdiv (r : Int) t) then (if wrap64 (Int.tdiv (r : Int) t) < (L.length : Int) then (if out.length < 17592186044416 then ((slices_Delete_int64_int64.f L (wrap64 (Int.tdiv (r : Int) t)) (wrap64 (wrap64 (Int.tdiv (r : Int) t) + 1))).bind fun t135 => impl_OrderOfRank.l1 k (Int.tmod (r : Int) t) t135 (out ++ [rd L (wrap64 (Int.tdiv (r : Int) t))])) else none) else none) else none)) (fun k => by
      rw [impl_OrderOfRank.l1, if_pos (by omega), impl_length_int64.f]
      simp only [Option.bind_some]
      rw [w64 (x := (L.length : Int) - 1) (by omega) (by omega), show (L.length : Int) - 1 = (e : Int) by omega]) (Ev.bind (implFac_ev e (by omega)) (Ev_ite_f (by omega) ?_))
    rw [q1, q2, w64 (x := (m : Int)) (by omega) (by omega), w64n m (by omega)]
    have hdel : slices_Delete_int64_int64.f L (m : Int) ((m + 1 : Nat) : Int) = some (L.take m ++ L.drop (m + 1)) := by
      unfold slices_Delete_int64_int64.f
      rw [if_pos (by omega), if_pos (by omega), if_pos (by omega), toNat_cast, toNat_cast]
    rw [hdel, rd_nat]
    refine Ev_ite_t (by omega) (Ev_ite_t (by omega) (Ev_ite_t (by omega) ?_))
    simp only [Option.bind_some]
    exact h2
theorem split_at (L : List Int) (m : Nat) (h : m < L.length) : ∃ A v B, L = A ++ v :: B ∧ A.length = m ∧ L.getD m 0 = v ∧ L.take m = A ∧ L.drop (m + 1) = B := by
  refine ⟨L.take m, L[m], L.drop (m + 1), ?_, by rw [List.length_take]; omega, by rw [List.getD_eq_getElem?_getD, List.getElem?_eq_getElem h]; rfl, rfl, rfl⟩
  rw [← List.drop_eq_getElem_cons h, List.take_append_drop]
theorem cnt_app (A B : List Int) (x : Int) : cnt (A ++ B) x = cnt A x + cnt B x := by unfold cnt; rw [List.countP_append]
theorem cnt_asc {A B : List Int} {v : Int} (h : (A ++ v :: B).Pairwise (· < ·)) : cnt (A ++ B) v = A.length := by
  rw [List.pairwise_append] at h
  obtain ⟨_, h2, h3⟩ := h
  rw [List.pairwise_cons] at h2
  rw [cnt_app]
  have e1 : cnt A v = A.length := List.countP_eq_length.2 (fun a ha => decide_eq_true (h3 a ha v (by simp)))
  have e2 : cnt B v = 0 := List.countP_eq_zero.2 (fun b hb => by have := h2.1 b hb; simp; omega)
  omega
theorem asc_del {A B : List Int} {v : Int} (h : (A ++ v :: B).Pairwise (· < ·)) : (A ++ B).Pairwise (· < ·) := by
  rw [List.pairwise_append] at h ⊢
  obtain ⟨h1, h2, h3⟩ := h
  exact ⟨h1, (List.pairwise_cons.1 h2).2, fun a ha b hb => h3 a ha b (by simp [hb])⟩
def rkN : List Int → Nat
  | [] => 0
  | x :: t => cnt t x * fac t.length + rkN t
theorem rkS_N : ∀ (p : List Int) (s : Int), rkS p s = s + (rkN p : Int)
  | [], s => by simp [rkS, rkN]
  | x :: t, s => by rw [rkS, rkS_N t, rkN, Int.natCast_add, Int.natCast_mul, Int.add_assoc]
theorem oor_perm : ∀ (e : Nat) (L : List Int) (r : Nat), L.Pairwise (· < ·) → L.length = e → r < fac e → (oor e L r).Perm L ∧ rkN (oor e L r) = r
  | 0, L, r, _, hl, hr => by
    obtain rfl := List.length_eq_zero_iff.1 hl
    rw [fac] at hr
    exact ⟨List.Perm.refl _, by rw [oor, rkN]; omega⟩
  | e + 1, L, r, ha, hl, hr => by
    rw [fac] at hr
    have hf : 0 < fac e := by
      rcases Nat.eq_zero_or_pos (fac e) with h | h
      · rw [h] at hr; simp at hr
      · exact h
    have hm : r / fac e < e + 1 := Nat.div_lt_of_lt_mul (by rw [Nat.mul_comm]; exact hr)
    obtain ⟨A, v, B, rfl, h1, h2, h3, h4⟩ := split_at L (r / fac e) (by omega)
    rw [oor, h2, h3, h4]
    have hle : (A ++ B).length = e := by rw [List.length_append] at hl ⊢; rw [List.length_cons] at hl; omega
    obtain ⟨p1, p2⟩ := oor_perm e (A ++ B) (r % fac e) (asc_del ha) hle (Nat.mod_lt _ hf)
    refine ⟨(p1.cons v).trans List.perm_middle.symm, ?_⟩
    rw [rkN, p2, oor_len]
    have : cnt (oor e (A ++ B) (r % fac e)) v = cnt (A ++ B) v := p1.countP_eq _
    rw [this, cnt_asc ha, h1, Nat.mul_comm]
    exact Nat.div_add_mod r (fac e)
theorem oor_rank : ∀ (p L : List Int), p.Perm L → L.Pairwise (· < ·) → rkN p < fac p.length ∧ oor p.length L (rkN p) = p
  | [], L, _, _ => by simp [rkN, oor, fac]
  | x :: t, L, hp, ha => by
    obtain ⟨A, B, rfl⟩ := List.append_of_mem (hp.mem_iff.1 (List.mem_cons_self))
    have ht : t.Perm (A ++ B) := (hp.trans List.perm_middle).cons_inv
    obtain ⟨i1, i2⟩ := oor_rank t (A ++ B) ht (asc_del ha)
    have hc : cnt t x = A.length := by
      have : cnt t x = cnt (A ++ B) x := ht.countP_eq _
      rw [this, cnt_asc ha]
    have hla : A.length ≤ t.length := by have := ht.length_eq; rw [List.length_append] at this; omega
    have hpos : 0 < fac t.length := by omega
    have hdiv : (A.length * fac t.length + rkN t) / fac t.length = A.length := by
      rw [Nat.mul_comm, Nat.mul_add_div hpos, Nat.div_eq_of_lt i1, Nat.add_zero]
    have hmod : (A.length * fac t.length + rkN t) % fac t.length = rkN t := by
      rw [Nat.mul_comm, Nat.mul_add_mod, Nat.mod_eq_of_lt i1]
    have hmul : A.length * fac t.length ≤ t.length * fac t.length := Nat.mul_le_mul_right _ hla
    refine ⟨?_, ?_⟩
    · rw [rkN, hc, List.length_cons, fac, Nat.add_mul]; omega
    · have g1 : (A ++ x :: B).getD A.length 0 = x := by simp [List.getD_eq_getElem?_getD]
      have g2 : (A ++ x :: B).take A.length = A := by simp
      have g3 : (A ++ x :: B).drop (A.length + 1) = B := by rw [List.drop_append]; simp
      rw [rkN, hc, List.length_cons, oor, hdiv, hmod, g1, g2, g3, i2]
def lexlt : List Int → List Int → Prop
  | a :: t, b :: u => a < b ∨ (a = b ∧ lexlt t u)
  | _, _ => False
theorem oor_lex : ∀ (e : Nat) (L : List Int) (r r' : Nat), L.Pairwise (· < ·) → L.length = e → r < r' → r' < fac e → lexlt (oor e L r) (oor e L r')
  | 0, L, r, r', _, _, h1, h2 => by rw [fac] at h2; omega
  | e + 1, L, r, r', ha, hl, h1, h2 => by
    rw [fac] at h2
    have hf : 0 < fac e := by
      rcases Nat.eq_zero_or_pos (fac e) with h | h
      · rw [h] at h2; simp at h2
      · exact h
    have hm' : r' / fac e < e + 1 := Nat.div_lt_of_lt_mul (by rw [Nat.mul_comm]; exact h2)
    have hle : r / fac e ≤ r' / fac e := Nat.div_le_div_right (by omega)
    rw [oor, oor, lexlt]
    by_cases hm : r / fac e = r' / fac e
    · right
      rw [hm]
      obtain ⟨A, v, B, rfl, g1, g2, g3, g4⟩ := split_at L (r' / fac e) (by omega)
      rw [g3, g4]
      have d1 := Nat.div_add_mod r (fac e)
      have d2 := Nat.div_add_mod r' (fac e)
      rw [hm] at d1
      exact ⟨rfl, oor_lex e (A ++ B) _ _ (asc_del ha) (by rw [List.length_append] at hl ⊢; rw [List.length_cons] at hl; omega) (by omega) (Nat.mod_lt _ hf)⟩
    · left
      have i1 : r / fac e < L.length := by omega
      have i2 : r' / fac e < L.length := by omega
      have := List.pairwise_iff_getElem.1 ha (r / fac e) (r' / fac e) i1 i2 (by omega)
      rw [List.getD_eq_getElem?_getD, List.getD_eq_getElem?_getD, List.getElem?_eq_getElem i1, List.getElem?_eq_getElem i2]
      exact this
theorem remn_asc (out : List Int) : ∀ (d x : Nat), (remn out d x).Pairwise (· < ·)
  | 0, x => by simp [remn]
  | d + 1, x => by
    rw [remn]
    split
    · exact remn_asc out d (x + 1)
    · rw [List.pairwise_cons]
      exact ⟨fun y hy => by have := remn_ge out d (x + 1) y hy; omega, remn_asc out d (x + 1)⟩
theorem remn_mem : ∀ (d x : Nat) (y : Int), y ∈ remn [] d x ↔ (x : Int) ≤ y ∧ y < (x + d : Nat)
  | 0, x, y => by
    simp [remn]
    try omega
  | d + 1, x, y => by
    rw [remn, if_neg (by simp), List.mem_cons, remn_mem d (x + 1) y]
    omega
theorem perm_ord {q : List Int} {n : Nat} (hn : n ≤ 12) (h : q.Perm (remn [] n 0)) : isOrd q = true := by
  have hl : q.length = n := by rw [h.length_eq, remn_all]
  have hnd : q.Nodup := h.nodup_iff.2 (remn_nodup [] n 0)
  refine isOrd_of (by omega) (fun j hj => ?_) (fun i j hi hj e => ?_)
  · have := (remn_mem n 0 (rd q (j : Int))).1 (h.mem_iff.1 (rd_mem hj))
    omega
  · rw [rd_get hi, rd_get hj] at e
    have hpw := List.pairwise_iff_getElem.1 (List.nodup_iff_pairwise_ne.1 hnd)
    by_cases h1 : i < j
    · exact absurd e (hpw i j hi hj h1)
    by_cases h2 : j < i
    · exact absurd e.symm (hpw j i hj hi h2)
    · omega
theorem ord_perm {p : List Int} (h : isOrd p = true) : p.Perm (remn [] p.length 0) := by
  have hnd : p.Nodup := by
    rw [List.nodup_iff_pairwise_ne, List.pairwise_iff_getElem]
    intro i j hi hj hij e
    rw [← rd_get hi, ← rd_get hj] at e
    have := ord_inj h hi hj e
    omega
  rw [List.perm_ext_iff_of_nodup hnd (remn_nodup [] p.length 0)]
  intro y
  rw [remn_mem]
  constructor
  · intro hy
    obtain ⟨j, hj, rfl⟩ := List.mem_iff_getElem.1 hy
    have := ord_at h j hj
    rw [rd_get hj] at this
    omega
  · intro hy
    obtain ⟨m, rfl⟩ := Int.eq_ofNat_of_zero_le (show 0 ≤ y by omega)
    obtain ⟨j, hj, e⟩ := ord_surj h m (by omega)
    rw [← e]
    exact rd_mem hj
theorem drawRank_ok (c : List Int) (hc : c.length ≤ 4096) (hb : ∀ x ∈ c, 0 ≤ x ∧ x ≤ 255) : ∃ p, Ev (fun k => spec_DrawRankOrder.f k c) p ∧ p.length ≤ 100 := by
  obtain ⟨a, s, e0, h0⟩ := from_ok c hc hb
  obtain ⟨p, a1, s1, e1, h1, l1⟩ := drawOrder_ok h0
  exact ⟨p, by unfold spec_DrawRankOrder.f; exact Ev.bind e0 (Ev.bind e1 (Ev.now _)), l1⟩
theorem drawOor_ok (c : List Int) (hc : c.length ≤ 4096) (hb : ∀ x ∈ c, 0 ≤ x ∧ x ≤ 255) : ∃ r, Ev (fun k => spec_DrawOrderOfRank.f k c) r := by
  obtain ⟨a, s, e0, h0⟩ := from_ok c hc hb
  obtain ⟨r1, a1, s1, e1, h1, _⟩ := next_ok h0 10 (by omega)
  unfold spec_DrawOrderOfRank.f
  by_cases h : r1 = 0
  · obtain ⟨r2, a2, s2, e2, h2, _⟩ := pick_ok h1 [(-1), 0, 12, 13] (by simp) (by simp)
    obtain ⟨r3, a3, s3, e3, h3, _⟩ := pick_ok h2 [(-1), 0, 1, 479001599, 479001600] (by simp) (by simp)
    refine ⟨(r2, r3), Ev.bind e0 ?_⟩
    simp only [e1, Option.bind_some, if_pos h, e2, e3]
    exact Ev.now _
  · obtain ⟨r2, a2, s2, e2, h2, p2, q2⟩ := next_ok h1 8 (by omega)
    have q2' := q2 (by omega)
    obtain ⟨m, rfl⟩ := Int.eq_ofNat_of_zero_le p2
    have e9 : wrap64 (1 + (m : Int)) = ((m + 1 : Nat) : Int) := by rw [w64 (by omega) (by omega)]; omega
    have fb := fac_bd (m + 1) (by omega)
    obtain ⟨r3, a3, s3, e3, h3, _⟩ := next_ok h2 (wrap64 ((fac (m + 1) : Int) + 1)) (by rw [w64 (by omega) (by omega)]; omega)
    refine ⟨(((m + 1 : Nat) : Int), r3), Ev.bind e0 ?_⟩
    simp only [e1, Option.bind_some, if_neg h, e2, e9]
    refine Ev.bind (specFac_ev (m + 1) (by omega)) ?_
    simp only [e3, Option.bind_some]
    exact Ev.now _
theorem FnRanks : laws_FnRanks.Pure := by
  intro c hc1 hc2 hw
  apply Ev.rounds
  unfold laws_FnRanks.f laws_big.f
  simp only [Option.bind_some, decide_eq_true_eq]
  by_cases hb : (c.length : Int) > 4096
  · exact Ev_ite_t hb (Ev.now _)
  refine Ev_ite_f hb ?_
  obtain ⟨p, hd, lp⟩ := drawRank_ok c (by omega) (fun x hx => wf8 (hw x hx))
  obtain ⟨ab, hd2⟩ := drawOor_ok c (by omega) (fun x hx => wf8 (hw x hx))
  obtain ⟨k, ks, ki, hk⟩ := rank_both p (by omega)
  obtain ⟨q, ql, qs, qi, hq⟩ := orderOfRank_both ab.1 ab.2
  refine Ev.bind hd (Ev.bind ki (Ev.bind ks (Ev.bind hd2 (Ev.bind qi (Ev.bind qs (Ev_ite_t rfl (Ev_ite_t rfl (Ev_ite_t rfl (Ev.bind (likeInts_ev q.1 (by omega)) ?_)))))))))
  have h3 : Ev (fun n => laws_FnRanks.j3 n p k.1 k.2) true := by
    rcases hk with ⟨ho, h12, rfl⟩ | ⟨_, rfl | rfl⟩
    · have hp := ord_perm ho
      obtain ⟨r1, r2⟩ := oor_rank p _ hp (remn_asc [] p.length 0)
      have fb := fac_bd p.length h12
      have ek : wrap64 (rkS p 0) = (rkN p : Int) := by rw [rkS_N, Int.zero_add, w64 (by omega) (by omega)]
      rw [ek]
      obtain ⟨b, bl, bs, bi, hb2⟩ := orderOfRank_both (p.length : Int) (rkN p : Int)
      obtain rfl : b = (p, 0) := by
        rcases hb2 with ⟨n, m, e1, e2, _, e3, _, _, e4⟩ | ⟨hn, _⟩
        · obtain rfl : n = p.length := by omega
          have e5 := ev_uniq e4 (oor_ev p.length h12 (rkN p) (remn [] p.length 0) [] r1 (remn_all _ _) (by simp; omega))
          rw [r2, List.nil_append] at e5
          exact e5
        · exact absurd ⟨by omega, by omega, by omega, by rw [toNat_cast]; omega⟩ hn
      exact Ev.step (f := fun n => (impl_OrderOfRank.f n (p.length : Int) (rkN p : Int)).bind fun bt => if bt.2 = 0 then ((laws_likeInts.f n bt.1 p).bind fun t => some t) else none) (fun n => by rw [laws_FnRanks.j3, if_pos rfl]) (Ev.bind bi (Ev_ite_t rfl (Ev.bind (likeInts_ev p (by omega)) (Ev.now _))))
    · exact Ev.step (f := fun _ => some true) (fun n => by rw [laws_FnRanks.j3, if_neg (by simp)]) (Ev.now _)
    · exact Ev.step (f := fun _ => some true) (fun n => by rw [laws_FnRanks.j3, if_neg (by simp)]) (Ev.now _)
  rcases hq with ⟨n, m, e1, e2, hn, hm, q2, _, q4⟩ | ⟨_, rfl⟩
  · have hasc := remn_asc [] n 0
    have hall := remn_all n 0
    have fb := fac_bd n hn
    have eq1 := oor_ev n hn m (remn [] n 0) [] hm hall (by simp; omega)
    rw [e2] at q4
    have e5 := ev_uniq q4 eq1
    rw [List.nil_append] at e5
    obtain ⟨g1, g2⟩ := oor_perm n (remn [] n 0) m hasc hall hm
    have hoq : isOrd (oor n (remn [] n 0) m) = true := perm_ord hn g1
    have hlq := oor_len n (remn [] n 0) m
    obtain ⟨k', _, ki', hk'⟩ := rank_both (oor n (remn [] n 0) m) (by omega)
    obtain rfl : k' = ((m : Int), 0) := by
      rcases hk' with ⟨_, _, e⟩ | ⟨hx, _⟩
      · rw [e, rkS_N, g2, Int.zero_add, w64 (by omega) (by omega)]
      · exact absurd ⟨hoq, by omega⟩ hx
    obtain ⟨x, xl, xs, xi, hx⟩ := orderOfRank_both (n : Int) ((m + 1 : Nat) : Int)
    rw [e5, e1, e2]
    refine Ev.step (f := fun z => (impl_RankOrder.f z (oor n (remn [] n 0) m)).bind fun bt => (impl_OrderOfRank.f z (n : Int) ((m + 1 : Nat) : Int)).bind fun bt2 => if bt.2 = 0 then laws_FnRanks.j1 z p k.1 k.2 (oor n (remn [] n 0) m) bt2.1 bt2.2 (bt.1 != (m : Int)) else none) (fun z => by rw [laws_FnRanks.j0, if_neg (by simp), if_pos rfl, w64n m (by omega)]) (Ev.bind ki' (Ev.bind xi (Ev_ite_t rfl ?_)))
    have bb : ((m : Int) != (m : Int)) = false := by simp
    rw [bb]
    rcases hx with ⟨n', m', f1, f2, _, f3, f4, f5, f6⟩ | ⟨_, rfl⟩
    · obtain rfl : n' = n := by omega
      obtain rfl : m' = m + 1 := by omega
      have f7 := ev_uniq f6 (oor_ev n' hn (m + 1) (remn [] n' 0) [] f3 hall (by simp; omega))
      rw [List.nil_append] at f7
      subst f7
      have hlx := oor_len n' (remn [] n' 0) (m + 1)
      have hlex := oor_lex n' (remn [] n' 0) m (m + 1) hasc hall (by omega) f3
      generalize oor n' (remn [] n' 0) m = u at hlq hlex ⊢
      generalize oor n' (remn [] n' 0) (m + 1) = v at hlx hlex ⊢
      have loop : ∀ (d i : Nat), i + d = n' → lexlt (u.drop i) (v.drop i) → Ev (fun z => laws_FnRanks.l0 z p k.1 k.2 u v (i : Int)) true := by
        intro d
        induction d with
        | zero =>
          intro i hi hx
          rw [List.drop_of_length_le (by omega)] at hx
          simp [lexlt] at hx
        | succ d ih =>
          intro i hi hx
          rw [drop_cons (xs := u) (show i < u.length by omega), drop_cons (xs := v) (show i < v.length by omega), lexlt] at hx
          by_cases he : rd u (i : Int) = rd v (i : Int)
          · have := ih (i + 1) (by omega) (by rcases hx with hx | hx; omega; exact hx.2)
            refine Ev.step (fun z => ?_) this
            rw [laws_FnRanks.l0, if_pos (by omega), if_pos (by omega), if_pos (by omega), if_pos he, w64n i (by omega)]
          · refine Ev.step (fun z => ?_) h3
            have hlt : rd u (i : Int) < rd v (i : Int) := by
              rcases hx with hx | hx
              · exact hx
              · exact absurd hx.1 he
            rw [laws_FnRanks.l0, if_pos (by omega), if_pos (by omega), if_pos (by omega), if_neg he, if_neg (by omega), if_neg (by omega)]
      refine Ev.step (f := fun z => laws_FnRanks.l0 z p k.1 k.2 u v ((0 : Nat) : Int)) (fun z => ?_) (loop n' 0 (by omega) hlex)
      rw [laws_FnRanks.j1, if_neg (by simp), if_pos rfl, if_pos (by simp only; omega)]
      rfl
    · exact Ev.step (fun z => by rw [laws_FnRanks.j1, if_neg (by simp), if_neg (by simp)]) h3
  · exact Ev.step (fun z => by rw [laws_FnRanks.j0, if_neg (by simp), if_neg (by simp)]) h3

end Go.Proofs.Ytnmlnhkklbkhbaa.Pure
