/- The pure statement of FnExactOrderOfRank: for every input that the row lets in, the law's Lean function answers true; no further condition. -/
import Derived.Test.YtlenplkbfapjnaaQFnExactOrderOfRankx3
set_option linter.unusedVariables false
set_option linter.unusedSimpArgs false
namespace Go.Proofs.Ytlenplkbfapjnaa.Pure
open Go.RowKit Go.Proofs.Ytlenplkbfapjnaa.QFnExactOrderOfRank Go.Proofs.YtlenplkbfapjnaaW.PrintWords Go.Proofs.YtlenplkbfapjnaaW.PrintLast

theorem w64 {x : Int} (h0 : -9223372036854775808 ≤ x) (h1 : x ≤ 9223372036854775807) : wrap64 x = x := by unfold wrap64; omega
theorem wz : wrap64 0 = 0 := w64 (by omega) (by omega)
theorem w64_range (x : Int) : -9223372036854775808 ≤ wrap64 x ∧ wrap64 x ≤ 9223372036854775807 := by unfold wrap64; omega
theorem wf64 {x : Int} (h : (Lit.int .i64 x).wf = true) : -9223372036854775808 ≤ x ∧ x ≤ 9223372036854775807 := by
  have h' : (decide (IntKind.i64.min ≤ x) && decide (x ≤ IntKind.i64.max)) = true := h
  simp only [Bool.and_eq_true, decide_eq_true_eq] at h'
  exact h'
theorem wf8 {x : Int} (h : (Lit.int .u8 x).wf = true) : 0 ≤ x ∧ x ≤ 255 := by
  have h' : (decide (IntKind.u8.min ≤ x) && decide (x ≤ IntKind.u8.max)) = true := h
  simp only [Bool.and_eq_true, decide_eq_true_eq] at h'
  exact h'
theorem rd_get {xs : List Int} {i : Nat} (h : i < xs.length) : rd xs (i : Int) = xs[i] := by
  simp [rd, List.getD_eq_getElem?_getD, h]
theorem rd_nat (xs : List Int) (i : Nat) : rd xs (i : Int) = xs.getD i 0 := by simp [rd]
theorem rd_mem {xs : List Int} {i : Nat} (h : i < xs.length) : rd xs (i : Int) ∈ xs := by rw [rd_get h]; exact List.getElem_mem h
theorem rd_ext {xs ys : List Int} (hl : xs.length = ys.length) (h : ∀ i : Nat, i < xs.length → rd xs (i : Int) = rd ys (i : Int)) : xs = ys := by
  apply List.ext_getElem hl
  intro i h1 h2
  have := h i h1
  rwa [rd_get h1, rd_get h2] at this
theorem rd_set {xs : List Int} {i j : Nat} {v : Int} (hi : i < xs.length) : rd (xs.set i v) (j : Int) = if i = j then v else rd xs (j : Int) := by
  simp only [rd_nat, List.getD_eq_getElem?_getD, List.getElem?_set]
  by_cases h : i = j
  · subst h; simp [hi]
  · simp [h]
theorem rd_append_left {xs ys : List Int} {j : Nat} (h : j < xs.length) : rd (xs ++ ys) (j : Int) = rd xs (j : Int) := by
  simp only [rd_nat, List.getD_eq_getElem?_getD, List.getElem?_append_left h]
theorem rd_append_at {xs : List Int} {v : Int} : rd (xs ++ [v]) (xs.length : Int) = v := by
  simp [rd_nat, List.getD_eq_getElem?_getD]
theorem rd_take {xs : List Int} {i j : Nat} (h : j < i) : rd (xs.take i) (j : Int) = rd xs (j : Int) := by
  simp [rd_nat, List.getD_eq_getElem?_getD, List.getElem?_take, h]
theorem rd_drop {xs : List Int} {i j : Nat} : rd (xs.drop i) (j : Int) = rd xs ((i + j : Nat) : Int) := by
  simp only [rd_nat, List.getD_eq_getElem?_getD, List.getElem?_drop]
theorem toNat_cast (i : Nat) : ((i : Nat) : Int).toNat = i := Int.toNat_natCast i
theorem drop_cons {xs : List Int} {i : Nat} (h : i < xs.length) : xs.drop i = rd xs (i : Int) :: xs.drop (i + 1) := by
  rw [rd_get h]; exact List.drop_eq_getElem_cons h
theorem Ev_ite_t {α : Type} {c : Prop} [Decidable c] {f g : Nat → Option α} {r : α} (h : c) (k : Ev f r) : Ev (fun n => if c then f n else g n) r :=
  Ev.congr (fun _ => if_pos h) k
theorem Ev_ite_f {α : Type} {c : Prop} [Decidable c] {f g : Nat → Option α} {r : α} (h : ¬ c) (k : Ev g r) : Ev (fun n => if c then f n else g n) r :=
  Ev.congr (fun _ => if_neg h) k
theorem w64n (i : Nat) (h : i < 9223372036854775807) : wrap64 ((i : Int) + 1) = ((i + 1 : Nat) : Int) := by
  rw [w64 (by omega) (by omega)]; rfl
theorem wrap_add_wrap (a b : Int) : wrap64 (wrap64 a + b) = wrap64 (a + b) := by unfold wrap64; omega
theorem wrap_add_wrap' (a b : Int) : wrap64 (a + wrap64 b) = wrap64 (a + b) := by unfold wrap64; omega
theorem EvE_bind {α β : Type} {g : Nat → Option α} {f : Nat → α → Option β} {a : α} (h : Ev g a) (k : ∃ r, Ev (fun n => f n a) r) : ∃ r, Ev (fun n => (g n).bind (f n)) r := by
  obtain ⟨r, k⟩ := k
  exact ⟨r, Ev.bind h k⟩
theorem EvE_now {α : Type} (a : α) : ∃ r, Ev (fun _ : Nat => some a) r := ⟨a, Ev.now a⟩
theorem EvE_ite_t {α : Type} {c : Prop} [Decidable c] {f g : Nat → Option α} (h : c) (k : ∃ r, Ev f r) : ∃ r, Ev (fun n => if c then f n else g n) r := by
  obtain ⟨r, k⟩ := k
  exact ⟨r, Ev_ite_t h k⟩
theorem EvE_ite_f {α : Type} {c : Prop} [Decidable c] {f g : Nat → Option α} (h : ¬ c) (k : ∃ r, Ev g r) : ∃ r, Ev (fun n => if c then f n else g n) r := by
  obtain ⟨r, k⟩ := k
  exact ⟨r, Ev_ite_f h k⟩
def fac : Nat → Nat
  | 0 => 1
  | n + 1 => (n + 1) * fac n
theorem specFac_fin : ∀ n : Fin 13, spec_l01Factorial.f 20 (n.val : Int) = some (fac n.val : Int) := by decide +kernel
theorem implFac_fin : ∀ n : Fin 13, impl_factorial.f 20 (n.val : Int) = some (fac n.val : Int) := by decide +kernel
theorem specFac_ev (n : Nat) (h : n ≤ 12) : Ev (fun k => spec_l01Factorial.f k (n : Int)) (fac n : Int) := Ev.of (spec_l01Factorial.mono _) (specFac_fin ⟨n, by omega⟩)
theorem implFac_ev (n : Nat) (h : n ≤ 12) : Ev (fun k => impl_factorial.f k (n : Int)) (fac n : Int) := Ev.of (impl_factorial.mono _) (implFac_fin ⟨n, by omega⟩)
theorem l01Has_ev (l : List Int) (x : Int) (hl : l.length ≤ 35184372088832) : Ev (fun k => spec_l01Has.f k l x) (decide (x ∈ l)) := by
  have loop : ∀ (d i : Nat), i + d = l.length → Ev (fun k => spec_l01Has.l0 k l x (i : Int)) (decide (x ∈ l.drop i)) := by
    intro d
    induction d with
    | zero =>
      intro i hi
      have e : decide (x ∈ l.drop i) = false := by rw [List.drop_of_length_le (by omega)]; simp
      rw [e]
      exact Ev.step (f := fun _ => some false) (fun k => by rw [spec_l01Has.l0, if_neg (by omega)]) (Ev.now _)
    | succ d ih =>
      intro i hi
      by_cases e : rd l (i : Int) = x
      · have e1 : decide (x ∈ l.drop i) = true := by rw [drop_cons (by omega)]; simp [e]
        rw [e1]
        exact Ev.step (f := fun _ => some true) (fun k => by rw [spec_l01Has.l0, if_pos (by omega), if_pos (by omega), if_pos e]) (Ev.now _)
      · have e1 : decide (x ∈ l.drop i) = decide (x ∈ l.drop (i + 1)) := by rw [drop_cons (by omega)]; simp [Ne.symm e]
        rw [e1]
        exact Ev.step (fun k => by rw [spec_l01Has.l0, if_pos (by omega), if_pos (by omega), if_neg e, w64n i (by omega)]) (ih (i + 1) (by omega))
  have := loop l.length 0 (by omega)
  rw [List.drop_zero] at this
  exact Ev.congr (fun k => rfl) this
theorem l01In_eq (n a b : Int) : spec_l01In.f n a b = some (decide (a ≤ n ∧ n ≤ b)) := by
  unfold spec_l01In.f
  by_cases h : n ≥ a
  · rw [if_pos h]; simp [show a ≤ n from h]
  · rw [if_neg h]; simp [show ¬ a ≤ n from h]
theorem inRange_eq (n a b : Int) : impl_inRange.f n a b = some (decide (a ≤ n ∧ n ≤ b)) := by
  unfold impl_inRange.f
  by_cases h : a ≤ n
  · rw [if_pos h]; simp [h]
  · rw [if_neg h]; simp [h]
def remn (out : List Int) : Nat → Nat → List Int
  | 0, _ => []
  | d + 1, x => if (x : Int) ∈ out then remn out d (x + 1) else (x : Int) :: remn out d (x + 1)
theorem remn_ge (out : List Int) : ∀ (d x : Nat), ∀ y ∈ remn out d x, (x : Int) ≤ y
  | 0, x, y, h => by simp [remn] at h
  | d + 1, x, y, h => by
    rw [remn] at h
    split at h
    · have := remn_ge out d (x + 1) y h; omega
    · rcases List.mem_cons.1 h with rfl | h
      · omega
      · have := remn_ge out d (x + 1) y h; omega
theorem remn_le (out : List Int) : ∀ (d x : Nat), (remn out d x).length ≤ d
  | 0, x => by simp [remn]
  | d + 1, x => by
    have := remn_le out d (x + 1)
    rw [remn]
    split
    · omega
    · rw [List.length_cons]; omega
theorem remn_nodup (out : List Int) : ∀ (d x : Nat), (remn out d x).Nodup
  | 0, x => by simp [remn]
  | d + 1, x => by
    rw [remn]
    split
    · exact remn_nodup out d (x + 1)
    · rw [List.nodup_cons]
      exact ⟨fun h => by have := remn_ge out d (x + 1) _ h; omega, remn_nodup out d (x + 1)⟩
theorem remn_add (out : List Int) (v : Int) : ∀ (d x : Nat), remn (out ++ [v]) d x = (remn out d x).filter (fun y => decide (y ≠ v))
  | 0, x => by simp [remn]
  | d + 1, x => by
    rw [remn, remn, remn_add out v d (x + 1)]
    by_cases h : (x : Int) ∈ out
    · rw [if_pos (by simp [h]), if_pos h]
    · rw [if_neg h]
      by_cases e : (x : Int) = v
      · rw [if_pos (by simp [e]), List.filter_cons_of_neg (by simp [e])]
      · rw [if_neg (by simp [h, e]), List.filter_cons_of_pos (by simp [e])]
theorem filter_at : ∀ (L : List Int) (m : Nat), L.Nodup → m < L.length → L.filter (fun y => decide (y ≠ L.getD m 0)) = L.take m ++ L.drop (m + 1)
  | [], m, _, h => by simp at h
  | a :: t, 0, hn, _ => by
    rw [List.nodup_cons] at hn
    simp only [List.getD_cons_zero, List.take_zero, List.nil_append, List.drop_succ_cons, List.drop_zero]
    rw [List.filter_cons_of_neg (by simp)]
    exact List.filter_eq_self.2 (fun y hy => decide_eq_true (fun e => hn.1 (e ▸ hy)))
  | a :: t, m + 1, hn, h => by
    rw [List.nodup_cons] at hn
    have hm : m < t.length := by simpa using h
    have hv : t.getD m 0 ∈ t := by rw [List.getD_eq_getElem?_getD, List.getElem?_eq_getElem hm]; exact List.getElem_mem hm
    simp only [List.getD_cons_succ, List.take_succ_cons, List.drop_succ_cons, List.cons_append]
    have hne : a ≠ t.getD m 0 := fun e => hn.1 (by rw [e]; exact hv)
    rw [List.filter_cons_of_pos (by simpa using hne), filter_at t m hn.2 hm]
theorem fac_bounds : ∀ n : Fin 13, 1 ≤ fac n.val ∧ fac n.val ≤ 479001600 := by decide +kernel
theorem fac_bd (n : Nat) (h : n ≤ 12) : 1 ≤ fac n ∧ fac n ≤ 479001600 := fac_bounds ⟨n, by omega⟩
theorem spec_pick (n : Nat) (hn : n ≤ 12) (rk : Int) (out : List Int) (ho : out.length ≤ 12) (i : Nat) (hi : i ≤ 12) (R : List Int × Int) : ∀ (d x : Nat), x + d = n → ∀ c : Nat, c < (remn out d x).length →
    Ev (fun k => spec_OrderOfRank.l0 k (n : Int) rk (out ++ [(remn out d x).getD c 0]) ((i + 1 : Nat) : Int)) R → Ev (fun k => spec_OrderOfRank.l1 k (n : Int) rk out (i : Int) (c : Int) (x : Int)) R := by
  intro d
  induction d with
  | zero => intro x hx c hc; simp [remn] at hc
  | succ d ih =>
    intro x hx c hc hR
    have hh := l01Has_ev out (x : Int) (by omega)
    by_cases hm : (x : Int) ∈ out
    · rw [remn, if_pos hm] at hc hR
      rw [decide_eq_true hm] at hh
      refine Ev.step (f := fun k => (spec_l01Has.f k out (x : Int)).bind fun t => if t = true then spec_OrderOfRank.l1 k (n : Int) rk out (i : Int) (c : Int) ((x + 1 : Nat) : Int) else (if (c : Int) = 0 then (if out.length < 17592186044416 then spec_OrderOfRank.l0 k (n : Int) rk (out ++ [(x : Int)]) (wrap64 ((i : Int) + 1)) else none) else spec_OrderOfRank.l1 k (n : Int) rk out (i : Int) (wrap64 ((c : Int) - 1)) ((x + 1 : Nat) : Int))) (fun k => by rw [spec_OrderOfRank.l1, if_pos (by omega), w64n x (by omega)]) (Ev.bind hh (Ev_ite_t rfl (ih (x + 1) (by omega) c hc hR)))
    · rw [remn, if_neg hm] at hc hR
      rw [decide_eq_false hm] at hh
      refine Ev.step (f := fun k => (spec_l01Has.f k out (x : Int)).bind fun t => if t = true then spec_OrderOfRank.l1 k (n : Int) rk out (i : Int) (c : Int) ((x + 1 : Nat) : Int) else (if (c : Int) = 0 then (if out.length < 17592186044416 then spec_OrderOfRank.l0 k (n : Int) rk (out ++ [(x : Int)]) (wrap64 ((i : Int) + 1)) else none) else spec_OrderOfRank.l1 k (n : Int) rk out (i : Int) (wrap64 ((c : Int) - 1)) ((x + 1 : Nat) : Int))) (fun k => by rw [spec_OrderOfRank.l1, if_pos (by omega), w64n x (by omega)]) (Ev.bind hh (Ev_ite_f (by simp) ?_))
      cases c with
      | zero =>
        rw [List.getD_cons_zero] at hR
        rw [w64n i (by omega)]
        exact Ev_ite_t rfl (Ev_ite_t (by omega) hR)
      | succ c =>
        rw [List.getD_cons_succ] at hR
        have hc2 := remn_le out d (x + 1)
        rw [List.length_cons] at hc
        rw [w64 (x := ((c + 1 : Nat) : Int) - 1) (by omega) (by omega), show ((c + 1 : Nat) : Int) - 1 = (c : Int) by omega]
        exact Ev_ite_f (by omega) (ih (x + 1) (by omega) c (by omega) hR)
theorem oor_both (n : Nat) (hn : n ≤ 12) : ∀ (e i : Nat), i + e = n → ∀ (r : Nat) (out : List Int), r < fac e → out.length = i → (remn out n 0).length = e →
    ∃ R : List Int, R.length = n ∧ Ev (fun k => spec_OrderOfRank.l0 k (n : Int) (r : Int) out (i : Int)) (R, 0) ∧ Ev (fun k => impl_OrderOfRank.l1 k (r : Int) (remn out n 0) out) (R, 0) := by
  intro e
  induction e with
  | zero =>
    intro i hi r out hr ho hl
    refine ⟨out, by omega, Ev.step (f := fun _ => some (out, 0)) (fun k => by rw [spec_OrderOfRank.l0, if_neg (by omega)]) (Ev.now _), Ev.step (f := fun _ => some (out, 0)) (fun k => by rw [impl_OrderOfRank.l1, if_neg (by omega)]) (Ev.now _)⟩
  | succ e ih =>
    intro i hi r out hr ho hl
    have fb := fac_bd e (by omega)
    rw [fac] at hr
    have hm : r / fac e < e + 1 := Nat.div_lt_of_lt_mul (by rw [Nat.mul_comm]; exact hr)
    have hrm : r % fac e < fac e := Nat.mod_lt _ (by omega)
    have hr13 : (e + 1) * fac e ≤ 13 * 479001600 := Nat.mul_le_mul (by omega) fb.2
    have q1 : Int.tdiv (r : Int) (fac e : Int) = ((r / fac e : Nat) : Int) := by rw [Int.tdiv_eq_ediv_of_nonneg (by omega)]; rfl
    have q2 : Int.tmod (r : Int) (fac e : Int) = ((r % fac e : Nat) : Int) := by rw [Int.tmod_eq_emod_of_nonneg (by omega)]; rfl
    generalize r / fac e = m at hm q1
    generalize r % fac e = s at hrm q2
    have hd := remn_add out ((remn out n 0).getD m 0) n 0
    rw [filter_at _ m (remn_nodup out n 0) (by omega)] at hd
    obtain ⟨R, hR, h1, h2⟩ := ih (i + 1) (by omega) s (out ++ [(remn out n 0).getD m 0]) hrm (by rw [List.length_append, List.length_singleton]; omega) (by rw [hd, List.length_append, List.length_take, List.length_drop]; omega)
    refine ⟨R, hR, ?_, ?_⟩
    · have hp := spec_pick n hn (s : Int) out (by omega) i (by omega) (R, 0) n 0 (by omega) m (by omega) h1
      refine Ev.step (f := fun k => (spec_l01Factorial.f k (e : Int)).bind fun t => if t = 0 then none else spec_OrderOfRank.l1 k (n : Int) (Int.tmod (r : Int) t) out (i : Int) (wrap64 (Int.tdiv (r : Int) t)) 0) (fun k => by rw [spec_OrderOfRank.l0, if_pos (by omega), w64 (x := (n : Int) - i) (by omega) (by omega), w64 (x := (n : Int) - i - 1) (by omega) (by omega), show (n : Int) - i - 1 = (e : Int) by omega]) (Ev.bind (specFac_ev e (by omega)) (Ev_ite_f (by omega) ?_))
      rw [q1, q2, w64 (x := (m : Int)) (by omega) (by omega)]
      exact hp
    · rw [hd] at h2
      refine Ev.step (f := fun k => (impl_factorial.f k (e : Int)).bind fun t => if t = 0 then none else (if 0 ≤ wrap64 (Int.tdiv (r : Int) t) then (if wrap64 (Int.tdiv (r : Int) t) < ((remn out n 0).length : Int) then (if out.length < 17592186044416 then ((slices_Delete_int64_int64.f (remn out n 0) (wrap64 (Int.tdiv (r : Int) t)) (wrap64 (wrap64 (Int.tdiv (r : Int) t) + 1))).bind fun t135 => impl_OrderOfRank.l1 k (Int.tmod (r : Int) t) t135 (out ++ [rd (remn out n 0) (wrap64 (Int.tdiv (r : Int) t))])) else none) else none) else none)) (fun k => by
        rw [impl_OrderOfRank.l1, if_pos (by omega), impl_length_int64.f]
        simp only [Option.bind_some]
        rw [w64 (x := ((remn out n 0).length : Int) - 1) (by omega) (by omega), show ((remn out n 0).length : Int) - 1 = (e : Int) by omega]) (Ev.bind (implFac_ev e (by omega)) (Ev_ite_f (by omega) ?_))
      rw [q1, q2, w64 (x := (m : Int)) (by omega) (by omega), w64n m (by omega)]
      have hdel : slices_Delete_int64_int64.f (remn out n 0) (m : Int) ((m + 1 : Nat) : Int) = some ((remn out n 0).take m ++ (remn out n 0).drop (m + 1)) := by
        unfold slices_Delete_int64_int64.f
        rw [if_pos (by omega), if_pos (by omega), if_pos (by omega), toNat_cast, toNat_cast]
      rw [hdel, rd_nat]
      refine Ev_ite_t (by omega) (Ev_ite_t (by omega) (Ev_ite_t (by omega) ?_))
      simp only [Option.bind_some]
      exact h2
theorem remn_all : ∀ (d x : Nat), (remn [] d x).length = d
  | 0, x => rfl
  | d + 1, x => by rw [remn, if_neg (by simp), List.length_cons, remn_all d (x + 1)]
theorem orderOfRank_both (a b : Int) : ∃ r : List Int × Int, r.1.length ≤ 12 ∧ Ev (fun k => spec_OrderOfRank.f k a b) r ∧ Ev (fun k => impl_OrderOfRank.f k a b) r ∧
    ((∃ n m : Nat, a = n ∧ b = m ∧ n ≤ 12 ∧ m < fac n ∧ r.2 = 0 ∧ r.1.length = n ∧ Ev (fun k => impl_OrderOfRank.l1 k b (remn [] n 0) []) r) ∨ (¬ (0 ≤ a ∧ a ≤ 12 ∧ 0 ≤ b ∧ b < (fac a.toNat : Int)) ∧ r = ([], 2))) := by
  unfold spec_OrderOfRank.f impl_OrderOfRank.f
  rw [l01In_eq, inRange_eq]
  simp only [Option.bind_some, decide_eq_true_eq]
  by_cases ha : 0 ≤ a ∧ a ≤ 12
  · obtain ⟨n, rfl⟩ := Int.eq_ofNat_of_zero_le ha.1
    have fb := fac_bd n (by omega)
    have fs := specFac_ev n (by omega)
    have fi := implFac_ev n (by omega)
    have e1 : wrap64 ((fac n : Int) - 1) = (fac n : Int) - 1 := w64 (by omega) (by omega)
    by_cases hb : 0 ≤ b ∧ b ≤ (fac n : Int) - 1
    · obtain ⟨m, rfl⟩ := Int.eq_ofNat_of_zero_le hb.1
      obtain ⟨R, hR, h1, h2⟩ := oor_both n (by omega) n 0 (by omega) m [] (by omega) rfl (remn_all n 0)
      have build : ∀ (d i : Nat), i + d = n → ∀ acc : List Int, acc.length = i → acc ++ remn [] d i = remn [] n 0 → Ev (fun k => impl_OrderOfRank.l0 k (m : Int) acc [] (n : Int) (i : Int)) (R, 0) := by
        intro d
        induction d with
        | zero =>
          intro i hi acc hl he
          rw [remn, List.append_nil] at he
          subst he
          exact Ev.step (fun k => by rw [impl_OrderOfRank.l0, if_neg (by omega)]) h2
        | succ d ih =>
          intro i hi acc hl he
          refine Ev.step (fun k => ?_) (ih (i + 1) (by omega) (acc ++ [(i : Int)]) (by rw [List.length_append, List.length_singleton]; omega) (by rw [← he, remn, if_neg (by simp), List.append_assoc]; rfl))
          rw [impl_OrderOfRank.l0, if_pos (by omega), if_pos (by omega), w64n i (by omega)]
      refine ⟨(R, 0), by show R.length ≤ 12; omega, Ev_ite_t ha (Ev.bind fs ?_), Ev_ite_t ha (Ev.bind fi ?_), .inl ⟨n, m, rfl, rfl, by omega, by omega, rfl, hR, h2⟩⟩
      · rw [l01In_eq, e1]
        simp only [Option.bind_some]
        rw [decide_eq_true hb]
        exact Ev.step (f := fun k => spec_OrderOfRank.l0 k (n : Int) (m : Int) [] ((0 : Nat) : Int)) (fun k => by rw [spec_OrderOfRank.j0, if_neg (by simp)]; rfl) h1
      · rw [inRange_eq, e1]
        simp only [Option.bind_some]
        rw [decide_eq_true hb]
        exact Ev.step (f := fun k => impl_OrderOfRank.l0 k (m : Int) [] [] (n : Int) ((0 : Nat) : Int)) (fun k => by rw [impl_OrderOfRank.j0, if_neg (by simp)]; rfl) (build n 0 (by omega) [] rfl rfl)
    · refine ⟨([], 2), by simp, Ev_ite_t ha (Ev.bind fs ?_), Ev_ite_t ha (Ev.bind fi ?_), .inr ⟨fun h => hb ⟨h.2.2.1, by rw [toNat_cast] at h; omega⟩, rfl⟩⟩
      · rw [l01In_eq, e1]
        simp only [Option.bind_some]
        rw [decide_eq_false hb]
        exact Ev.step (f := fun _ => some ([], 2)) (fun k => by rw [spec_OrderOfRank.j0, if_pos (by simp)]) (Ev.now _)
      · rw [inRange_eq, e1]
        simp only [Option.bind_some]
        rw [decide_eq_false hb]
        exact Ev.step (f := fun _ => some ([], 2)) (fun k => by rw [impl_OrderOfRank.j0, if_pos (by simp)]) (Ev.now _)
  · refine ⟨([], 2), by simp, Ev_ite_f ha ?_, Ev_ite_f ha ?_, .inr ⟨fun h => ha ⟨h.1, h.2.1⟩, rfl⟩⟩
    · exact Ev.step (f := fun _ => some ([], 2)) (fun k => by rw [spec_OrderOfRank.j0, if_pos rfl]) (Ev.now _)
    · exact Ev.step (f := fun _ => some ([], 2)) (fun k => by rw [impl_OrderOfRank.j0, if_pos rfl]) (Ev.now _)
theorem eqInt64S_ev (l : List Int) (hl : l.length ≤ 35184372088832) : Ev (fun k => laws_eqInt64S.f k l l) true := by
  have loop : ∀ (d i : Nat), i + d = l.length → Ev (fun k => laws_eqInt64S.l0 k l l (i : Int)) true := by
    intro d
    induction d with
    | zero =>
      intro i hi
      refine Ev.step (f := fun _ => some true) (fun k => by rw [laws_eqInt64S.l0, if_neg (by omega)]) (Ev.now _)
    | succ d ih =>
      intro i hi
      refine Ev.step (f := fun k => laws_eqInt64S.l0 k l l ((i + 1 : Nat) : Int)) (fun k => by rw [laws_eqInt64S.l0, if_pos (by omega), if_pos (by omega), if_pos (by omega), if_pos rfl, w64n i (by omega)]) ?_
      exact ih (i + 1) (by omega)
  refine Ev.congr (f := fun k => laws_eqInt64S.l0 k l l ((0 : Nat) : Int)) (fun k => ?_) (loop l.length 0 (by omega))
  simp only [laws_eqInt64S.f, if_true]
  rfl
theorem markInt64S_ev (l : List Int) (q : Int) (hl : l.length ≤ 35184372088832) (hq : 0 ≤ q) (hq1 : q ≤ 1000000000000000000) :
    ∃ x : List Int, x.length = l.length ∧ (∀ j : Nat, j < l.length → rd x (j : Int) = q + j) ∧ Ev (fun k => laws_markInt64S.f k l q) (q + l.length, x) := by
  have loop : ∀ (d i : Nat), i + d = l.length → ∀ x : List Int, x.length = l.length → (∀ j : Nat, j < i → rd x (j : Int) = q + j) →
      ∃ y : List Int, y.length = l.length ∧ (∀ j : Nat, j < l.length → rd y (j : Int) = q + j) ∧ Ev (fun k => laws_markInt64S.l0 k x (q + i) (i : Int)) (q + l.length, y) := by
    intro d
    induction d with
    | zero =>
      intro i hi x hx h
      obtain rfl : i = l.length := by omega
      exact ⟨x, hx, h, Ev.step (f := fun _ => some (q + l.length, x)) (fun k => by rw [laws_markInt64S.l0, if_neg (by omega)]) (Ev.now _)⟩
    | succ d ih =>
      intro i hi x hx h
      obtain ⟨y, h1, h2, h3⟩ := ih (i + 1) (by omega) (x.set i (q + i)) (by rw [List.length_set]; exact hx) (fun j hj => by
        rw [rd_set (by omega)]
        by_cases e : i = j
        · rw [if_pos e, e]
        · rw [if_neg e]; exact h j (by omega))
      refine ⟨y, h1, h2, Ev.step (fun k => ?_) h3⟩
      have e1 : wrap64 (q + (i : Int) + 1) = q + ((i + 1 : Nat) : Int) := by rw [w64 (by omega) (by omega)]; omega
      rw [laws_markInt64S.l0, if_pos (by omega), if_pos (by omega), w64n i (by omega), toNat_cast, e1]
  obtain ⟨y, h1, h2, h3⟩ := loop l.length 0 (by omega) l rfl (fun j hj => by omega)
  refine ⟨y, h1, h2, Ev.congr (fun k => ?_) h3⟩
  simp only [laws_markInt64S.f]
  rw [show q + ((0 : Nat) : Int) = q by omega]
  rfl
theorem heldInt64S_ev (x : List Int) (n : Nat) (q : Int) (hx : x.length = n) (h : ∀ j : Nat, j < n → rd x (j : Int) = q + j) (hl : n ≤ 35184372088832) (hq : 0 ≤ q) (hq1 : q ≤ 1000000000000000000) :
    Ev (fun k => laws_heldInt64S.f k x q) (q + n) := by
  have loop : ∀ (d i : Nat), i + d = n → Ev (fun k => laws_heldInt64S.l0 k x (q + i) (i : Int)) (q + n) := by
    intro d
    induction d with
    | zero =>
      intro i hi
      obtain rfl : i = n := by omega
      exact Ev.step (f := fun _ => some (q + (i : Int))) (fun k => by rw [laws_heldInt64S.l0, if_neg (by omega)]) (Ev.now _)
    | succ d ih =>
      intro i hi
      refine Ev.step (fun k => ?_) (ih (i + 1) (by omega))
      have e1 : wrap64 (q + (i : Int) + 1) = q + ((i + 1 : Nat) : Int) := by rw [w64 (by omega) (by omega)]; omega
      rw [laws_heldInt64S.l0, if_pos (by omega), if_pos (by omega), if_pos (h i (by omega)), w64n i (by omega), e1]
  refine Ev.congr (fun k => ?_) (loop n 0 (by omega))
  simp only [laws_heldInt64S.f]
  rw [show q + ((0 : Nat) : Int) = q by omega]
  rfl
theorem FnExactOrderOfRank : laws_FnExactOrderOfRank.Pure := by
  intro a b _ _
  apply Ev.rounds
  unfold laws_FnExactOrderOfRank.f
  obtain ⟨r, hl, hs, hi, _⟩ := orderOfRank_both a b
  have e := eqInt64S_ev r.1 (by omega)
  obtain ⟨x, x1, x2, x3⟩ := markInt64S_ev r.1 1 (by omega) (by omega) (by omega)
  have hh := heldInt64S_ev x r.1.length 1 x1 x2 (by omega) (by omega) (by omega)
  refine Ev.bind hs (Ev.bind hi (Ev.bind e (Ev_ite_t rfl ?_)))
  refine Ev.step (fun k => by rw [laws_FnExactOrderOfRank.j0, if_neg (by simp)]) ?_
  refine Ev.bind x3 (Ev.bind hh (Ev_ite_f (by omega) (Ev_ite_t rfl (Ev.bind hi (Ev.bind e (Ev_ite_t rfl ?_))))))
  refine Ev.step (fun k => by rw [laws_FnExactOrderOfRank.j1, if_neg (by simp)]) ?_
  exact Ev.bind hh (Ev_ite_f (by omega) (Ev_ite_t rfl (Ev.now _)))

end Go.Proofs.Ytlenplkbfapjnaa.Pure
