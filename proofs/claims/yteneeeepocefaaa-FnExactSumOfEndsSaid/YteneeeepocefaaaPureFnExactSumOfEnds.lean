/- What is proved here: the pure statement of the law FnExactSumOfEnds: for every input the law, as the print tells it, answers true. No condition. (The row that follows from it says it of the Go program.) -/
import Derived.Test.YteneeeepocefaaaPFnExactSumOfEndsx5
import Derived.Test.YteneeeepocefaaaBase
set_option linter.unusedSimpArgs false
set_option linter.unusedVariables false
namespace Go.Proofs.Yteneeeepocefaaa.Pure
open Go.RowKit Go.Proofs.Yteneeeepocefaaa.PFnExactSumOfEnds Go.Proofs.YteneeeepocefaaaW.PrintWords Go.Proofs.YteneeeepocefaaaW.PrintLast Go.Proofs.Yteneeeepocefaaa.Base

theorem toIntS_ev (l : List Int) (hl : l.length ≤ 1048576) : Ev (fun k => laws_toIntS.f k l) l := by
  have key := range (n := l.length) (fun (s : List Int) i k => laws_toIntS.l0 k l s i) (fun _ _ => l) (fun i s => s.length = l.length ∧ s.take i = l.take i) (by
    intro s ⟨h1, h2⟩
    refine Ev.step (fun k => by rw [laws_toIntS.l0]) ?_
    refine Ev.neg (by omega) ?_
    rw [List.take_of_length_le (by omega), List.take_of_length_le (by omega)] at h2
    rw [h2]
    exact Ev.now _) (by
    intro i s hi ⟨h1, h2⟩ ih
    refine Ev.step (fun k => by rw [laws_toIntS.l0]) ?_
    refine Ev.pos (by omega) (Ev.pos (by omega) (Ev.pos (by omega) ?_))
    rw [wrap_succ hi (by omega), Int.toNat_natCast]
    refine ih _ ⟨by simpa using h1, ?_⟩
    have hs : i < s.length := by omega
    rw [take_rd hi, ← h2, List.take_succ_eq_append_getElem (by simpa using hs), List.take_set_of_le (Nat.le_refl _)]
    simp)
  refine Ev.pos (by omega) (Ev.pos (by omega) ?_)
  rw [Int.toNat_natCast]
  exact key 0 _ (by omega) ⟨by simp, rfl⟩
theorem eqIntS_ev (l m : List Int) (hl : l.length ≤ 1048576) (h : l = m) : Ev (fun k => laws_eqIntS.f k l m) true := by
  subst h
  have key := range (n := l.length) (fun (_ : Unit) i k => laws_eqIntS.l0 k l l i) (fun _ _ => true) (fun _ _ => True) (by
    intro s _
    refine Ev.step (fun k => by rw [laws_eqIntS.l0]) ?_
    exact Ev.neg (by omega) (Ev.now _)) (by
    intro i s hi _ ih
    refine Ev.step (fun k => by rw [laws_eqIntS.l0]) ?_
    refine Ev.pos (by omega) (Ev.pos (by omega) (Ev.pos (by omega) (Ev.pos rfl ?_)))
    rw [wrap_succ hi (by omega)]
    exact ih s trivial)
  exact Ev.pos rfl (key 0 () (by omega) trivial)
theorem l1In_eq (a b c : Int) : spec_l1In.f a b c = some (decide (b ≤ a ∧ a ≤ c)) := by
  unfold spec_l1In.f
  by_cases h : a ≥ b
  · rw [if_pos h]; simp [h]
  · rw [if_neg h]; simp [h]
theorem l1All_ev (l : List Int) (a b : Int) (hl : l.length ≤ 1048576) : Ev (fun k => spec_l1All.f k l a b) (l.all fun x => decide (a ≤ x ∧ x ≤ b)) := by
  have key := range (n := l.length) (fun (_ : Unit) i k => spec_l1All.l0 k a b l (l.length : Int) i) (fun i _ => (l.drop i).all fun x => decide (a ≤ x ∧ x ≤ b)) (fun _ _ => True) (by
    intro s _
    refine Ev.step (fun k => by rw [spec_l1All.l0]) ?_
    rw [List.drop_length]
    exact Ev.neg (by omega) (Ev.now _)) (by
    intro i s hi _ ih
    refine Ev.step (fun k => by rw [spec_l1All.l0]) ?_
    refine Ev.pos (by omega) (Ev.pos (by omega) (Ev.pos (by omega) ?_))
    rw [l1In_eq, drop_rd hi, List.all_cons]
    refine Ev.some_ ?_
    cases h : decide (a ≤ rd l (i : Int) ∧ rd l (i : Int) ≤ b) with
    | true =>
      refine Ev.pos rfl ?_
      rw [wrap_succ hi (by omega), Bool.true_and]
      exact ih () trivial
    | false => exact Ev.neg (by decide) (Ev.now _))
  exact key 0 () (by omega) trivial
theorem ldGood_ev (l : List Int) (hl : l.length ≤ 1048576) : Ev (fun k => spec_ldGood.f k l) (areJobs l) := by
  refine Ev.congr (fun k => by rw [spec_ldGood.f, l1In_eq]) ?_
  refine Ev.some_ ?_
  unfold areJobs
  by_cases h : (1 : Int) ≤ (l.length : Int) ∧ (l.length : Int) ≤ 9
  · refine Ev.pos (decide_eq_true h) ?_
    rw [decide_eq_true h, Bool.true_and]
    exact Ev.bind (l1All_ev l 1 1000 hl) (Ev.now _)
  · refine Ev.neg (by simpa using h) ?_
    rw [decide_eq_false h, Bool.false_and]
    exact Ev.now _
def asked (l : List Int) (m : Int) : Bool := areJobs l && decide (1 ≤ m ∧ m ≤ 4)
theorem asked_iff {l : List Int} {m : Int} : asked l m = true ↔ areJobs l = true ∧ 1 ≤ m ∧ m ≤ 4 := by
  unfold asked
  rw [Bool.and_eq_true, decide_eq_true_eq]
theorem ldAsked_ev (l : List Int) (m : Int) (hl : l.length ≤ 1048576) : Ev (fun k => spec_ldAsked.f k l m) (asked l m) := by
  refine Ev.bind (ldGood_ev l hl) ?_
  unfold asked
  cases areJobs l with
  | true => exact Ev.pos rfl (Ev.bind (Ev.const (l1In_eq m 1 4)) (Ev.now _))
  | false => exact Ev.neg (by decide) (Ev.now _)
def planOf (l : List Int) (m : Int) (p : List Int) : Bool := decide ((p.length : Int) = (l.length : Int)) && allIn p 0 (wrap64 (m - 1))
theorem ldPlan_ev (l : List Int) (m : Int) (p : List Int) (hp : p.length ≤ 1048576) : Ev (fun k => spec_ldPlan.f k l m p) (planOf l m p) := by
  unfold planOf
  by_cases h : (p.length : Int) = (l.length : Int)
  · rw [decide_eq_true h, Bool.true_and]
    exact Ev.pos h (Ev.bind (l1All_ev p 0 _ hp) (Ev.now _))
  · rw [decide_eq_false h, Bool.false_and]
    exact Ev.neg h (Ev.now _)
theorem ldBoth_ev (l : List Int) (m : Int) (p : List Int) (hl : l.length ≤ 1048576) (hp : p.length ≤ 1048576) : Ev (fun k => spec_ldBoth.f k l m p) (asked l m && planOf l m p) := by
  refine Ev.bind (ldAsked_ev l m hl) ?_
  cases asked l m with
  | true => exact Ev.pos rfl (Ev.bind (ldPlan_ev l m p hp) (Ev.now _))
  | false => exact Ev.neg (by decide) (Ev.now _)
theorem planned_of {l : List Int} {m : Int} {p : List Int} (h : (asked l m && planOf l m p) = true) : Planned l m p := by
  rw [Bool.and_eq_true] at h
  obtain ⟨h1, h2⟩ := h
  obtain ⟨h3, h4, h5⟩ := asked_iff.1 h1
  obtain ⟨h6, h7, h8⟩ := areJobs_len h3
  unfold planOf at h2
  rw [Bool.and_eq_true, decide_eq_true_eq, wrap_id (by omega) (by omega)] at h2
  exact ⟨by omega, h7, h6, h8, h4, h5, h2.2⟩
theorem l1Own_eq (l : List Int) (hl : l.length ≤ 1048576) : spec_l1Own.f l = some l := by
  unfold spec_l1Own.f
  simp only [Option.bind_some, List.nil_append, List.length_nil]
  rw [if_pos (by omega)]
theorem ldOrder_false (jobs : List Int) (hn : jobs.length ≤ 1000) : Ev (fun k => spec_ldOrder.f k jobs false) (upFrom 0 jobs.length) := by
  have key := range (n := jobs.length) (fun (s : List Int) i k => spec_ldOrder.l0 k jobs false s jobs (jobs.length : Int) i) (fun _ _ => upFrom 0 jobs.length) (fun i s => s = upFrom 0 i) (by
    intro s hs
    refine Ev.step (fun k => by rw [spec_ldOrder.l0]) ?_
    rw [hs]
    exact Ev.neg (by omega) (Ev.now _)) (by
    intro i s hi hs ih
    have hsl : s.length = i := by rw [hs, upFrom_length]
    refine Ev.step (fun k => by rw [spec_ldOrder.l0]) ?_
    refine Ev.pos (by omega) (Ev.pos (by omega) (Ev.pos (by omega) ?_))
    refine Ev.step (fun k => by rw [spec_ldOrder.l1]) ?_
    rw [hsl, Int.toNat_natCast, List.take_of_length_le (by omega), List.drop_of_length_le (by omega), l1Own_eq s (by omega), wrap_succ hi (by omega)]
    refine Ev.neg (by decide) (Ev.pos (by omega) (Ev.pos (by omega) (Ev.some_ (Ev.pos (by omega) (Ev.some_ (Ev.some_ (Ev.pos (by simp; omega) ?_)))))))
    exact ih _ (by rw [List.append_nil, hs, upFrom_snoc, Int.zero_add]))
  exact key 0 [] (by omega) rfl
theorem ldOrder_true (jobs : List Int) (hn : jobs.length ≤ 1000) : Ev (fun k => spec_ldOrder.f k jobs true) (order jobs) := by
  have key := range (n := jobs.length) (fun (s : List Int) i k => spec_ldOrder.l0 k jobs true s jobs (jobs.length : Int) i) (fun _ _ => order jobs) (fun i s => s = orderF jobs i) (by
    intro s hs
    refine Ev.step (fun k => by rw [spec_ldOrder.l0]) ?_
    rw [hs]
    exact Ev.neg (by omega) (Ev.now _)) (by
    intro i s hi hs ih
    have hsl : s.length = i := by rw [hs, orderF_length]
    have hall := orderF_allIn jobs i
    rw [← hs] at hall
    refine Ev.step (fun k => by rw [spec_ldOrder.l0]) ?_
    refine Ev.pos (by omega) (Ev.pos (by omega) (Ev.pos (by omega) ?_))
    have place : ∀ j : Nat, j ≤ s.length → insAt s j (i : Int) = orderF jobs (i + 1) → Ev (fun k => if 0 ≤ (j : Int) then (if (j : Int) ≤ (s.length : Int) then ((spec_l1Own.f (s.take (j : Int).toNat)).bind fun t142 => (if t142.length < 17592186044416 then ((some (t142 ++ [(i : Int)] : List Int)).bind fun y145 => ((some (s.drop (j : Int).toNat : List Int)).bind fun y148 => (if y145.length + y148.length < 17592186044416 then (spec_ldOrder.l0 k jobs true (y145 ++ y148) jobs (jobs.length : Int) (wrap64 ((i : Int) + 1))) else (none)))) else (none))) else (none)) else (none)) (order jobs) := by
      intro j hj e
      rw [Int.toNat_natCast, l1Own_eq _ (by rw [List.length_take]; omega), wrap_succ hi (by omega)]
      refine Ev.pos (by omega) (Ev.pos (by omega) (Ev.some_ (Ev.pos (by rw [List.length_take]; omega) (Ev.some_ (Ev.some_ (Ev.pos (by simp only [List.length_append, List.length_take, List.length_drop, List.length_singleton]; omega) ?_))))))
      refine ih _ ?_
      rw [← e, insAt, List.append_assoc]
      rfl
    have inner : ∀ j : Nat, j ≤ s.length → insAt s (backTo jobs s (rd jobs (i : Int)) j) (i : Int) = orderF jobs (i + 1) → Ev (fun k => spec_ldOrder.l1 k jobs true s (i : Int) (rd jobs (i : Int)) (j : Int) jobs (jobs.length : Int) (i : Int)) (order jobs) := by
      intro j
      induction j with
      | zero =>
        intro hj e
        refine Ev.step (fun k => by rw [spec_ldOrder.l1]) ?_
        exact Ev.pos rfl (Ev.neg (by omega) (place 0 hj e))
      | succ j jh =>
        intro hj e
        have hq := allIn_rd hall (i := j) (by omega)
        have e1 : wrap64 (((j + 1 : Nat) : Int) - 1) = (j : Int) := by rw [wrap_id (by omega) (by omega)]; omega
        refine Ev.step (fun k => by rw [spec_ldOrder.l1]) ?_
        rw [e1]
        refine Ev.pos rfl (Ev.pos (by omega) (Ev.pos (by omega) (Ev.pos (by omega) (Ev.pos (by omega) (Ev.pos (by omega) ?_)))))
        simp only [backTo] at e
        by_cases hlt : rd jobs (rd s (j : Int)) < rd jobs (i : Int)
        · rw [if_pos hlt] at e
          exact Ev.pos hlt (jh (by omega) e)
        · rw [if_neg hlt] at e
          exact Ev.neg hlt (place (j + 1) hj e)
    exact inner s.length (Nat.le_refl _) (by simp only [orderF]; rw [hs]))
  exact key 0 [] (by omega) rfl
theorem wsum_bound {x c : Int} (h0 : 0 ≤ x) (h1 : x ≤ 1000) (c0 : 0 ≤ c) (c1 : c ≤ 1000) : 0 ≤ x * c ∧ x * c ≤ 1000000 := by
  refine ⟨Int.mul_nonneg h0 c0, ?_⟩
  have := Int.mul_le_mul h1 c1 c0 (by omega : (0 : Int) ≤ 1000)
  omega
theorem ldSum_ev (l : List Int) (hj : allIn l 0 1000 = true) (hn : l.length ≤ 9) : Ev (fun k => spec_ldSum.f k l) (wsumF 0 (vsort l)) := by
  refine Ev.bind (ldOrder_true l (by omega)) ?_
  have ho := order_allIn l
  have hul := order_length l
  rw [← order_vals]
  generalize order l = ord at ho hul ⊢
  have key := range (n := ord.length) (fun (s : Int) i k => spec_ldSum.l0 k l s ord (ord.length : Int) i) (fun i s => s + wsumF i ((ord.drop i).map (rd l))) (fun i s => 0 ≤ s ∧ s ≤ 1000000 * (i : Int)) (by
    intro s _
    refine Ev.step (fun k => by rw [spec_ldSum.l0]) ?_
    rw [List.drop_length]
    refine Ev.neg (by omega) ?_
    simp only [List.map_nil, wsumF, Int.add_zero]
    exact Ev.now _) (by
    intro i s hi hs ih
    have hq := allIn_rd ho hi
    have hx := allIn_at hj (p := rd ord (i : Int)) (by omega) (by omega)
    have hb := wsum_bound hx.1 hx.2 (c := (i : Int) + 1) (by omega) (by omega)
    refine Ev.step (fun k => by rw [spec_ldSum.l0]) ?_
    refine Ev.pos (by omega) (Ev.pos (by omega) (Ev.pos (by omega) (Ev.pos (by omega) (Ev.pos (by omega) ?_))))
    rw [wrap_id (x := (i : Int) + 1) (by omega) (by omega), wrap_id (x := rd l (rd ord (i : Int)) * ((i : Int) + 1)) (by omega) (by omega), wrap_id (by omega) (by omega), drop_rd hi, List.map_cons]
    simp only [wsumF]
    rw [← Int.add_assoc]
    exact ih _ (by omega))
  have := key 0 0 (by omega) (by omega)
  rw [List.drop_zero, Int.zero_add] at this
  exact this
theorem ownJobs_length (m : Int) : ∀ (ps js : List Int), (ownJobs m ps js).length ≤ js.length
  | [], js => by unfold ownJobs; simp
  | _ :: _, [] => by simp [ownJobs]
  | p :: ps, j :: js => by
    have := ownJobs_length m ps js
    simp only [ownJobs]
    split <;> simp only [List.length_cons] <;> omega
theorem ownJobs_allIn (m a b : Int) : ∀ (ps js : List Int), allIn js a b = true → allIn (ownJobs m ps js) a b = true
  | [], js, _ => by unfold ownJobs; rfl
  | _ :: _, [], _ => by simp only [ownJobs]; rfl
  | p :: ps, j :: js, h => by
    have h1 := allIn_iff.1 h j List.mem_cons_self
    have h2 := ownJobs_allIn m a b ps js (allIn_iff.2 fun y hy => allIn_iff.1 h y (List.mem_cons_of_mem _ hy))
    simp only [ownJobs]
    split
    · exact allIn_app (allIn_one h1.1 h1.2) h2
    · exact h2
theorem wsumF_bound (l : List Int) : ∀ (c : Int), allIn l 0 1000 = true → 0 ≤ c → c + l.length ≤ 1000 → 0 ≤ wsumF c l ∧ wsumF c l ≤ 1000000 * l.length := by
  induction l with
  | nil => intro c _ _ _; simp [wsumF]
  | cons x t ih =>
    intro c h h0 h1
    rw [List.length_cons] at h1 ⊢
    have hx := allIn_iff.1 h x List.mem_cons_self
    have := ih (c + 1) (allIn_iff.2 fun y hy => allIn_iff.1 h y (List.mem_cons_of_mem _ hy)) (by omega) (by omega)
    have hb := wsum_bound hx.1 hx.2 (c := c + 1) (by omega) (by omega)
    simp only [wsumF]
    omega
theorem vsort_allIn {l : List Int} {a b : Int} (h : allIn l a b = true) : allIn (vsort l) a b = true := by
  have : ∀ (l acc : List Int), (∀ x ∈ l, a ≤ x ∧ x ≤ b) → (∀ x ∈ acc, a ≤ x ∧ x ≤ b) → ∀ x ∈ l.foldl (fun acc x => insD id x acc) acc, a ≤ x ∧ x ≤ b := by
    intro l
    induction l with
    | nil => intro acc _ h; exact h
    | cons y t ih =>
      intro acc h1 h2
      rw [List.foldl_cons]
      refine ih _ (fun x hx => h1 x (List.mem_cons_of_mem _ hx)) (fun x hx => ?_)
      rcases mem_insD.1 hx with rfl | hx
      · exact h1 _ List.mem_cons_self
      · exact h2 x hx
  exact allIn_iff.2 (this l [] (allIn_iff.1 h) (fun x hx => by cases hx))
theorem specSum_ev {jobs plan : List Int} {m : Int} (h : Planned jobs m plan) : Ev (fun k => spec_SumOfEnds.l0 k jobs m plan 0 0) (sumEnds jobs m plan, true) := by
  have hlen := h.len
  have hfew := h.few
  have hm1 := h.m1
  have hm4 := h.m4
  have hj := allIn_mono h.job (a' := 0) (b' := 1000) (by decide) (by decide)
  have key := range (n := m.toNat) (fun (s : Int) i k => spec_SumOfEnds.l0 k jobs m plan s i) (fun _ _ => (sumEnds jobs m plan, true)) (fun i s => s = overM (fun k => wsumF 0 (vsort (ownJobs k plan jobs))) i ∧ 0 ≤ s ∧ s ≤ 100000000 * (i : Int)) (by
    intro s ⟨hs, _⟩
    refine Ev.step (fun k => by rw [spec_SumOfEnds.l0]) ?_
    rw [hs]
    exact Ev.neg (by omega) (Ev.now _)) (by
    intro i s hi ⟨hs, hs0, hs1⟩ ih
    refine Ev.step (fun k => by rw [spec_SumOfEnds.l0]) ?_
    refine Ev.pos (by omega) ?_
    have inner := range (n := plan.length) (fun (o : List Int) j k => spec_SumOfEnds.l1 k jobs m plan s (i : Int) o plan (plan.length : Int) j) (fun _ _ => (sumEnds jobs m plan, true)) (fun j o => o = ownJobs (i : Int) (plan.take j) (jobs.take j)) (by
      intro o ho
      rw [List.take_length, List.take_of_length_le (by omega)] at ho
      have hol := ownJobs_length (i : Int) plan jobs
      have hoa := ownJobs_allIn (i : Int) 0 1000 plan jobs hj
      rw [← ho] at hol hoa
      refine Ev.step (fun k => by rw [spec_SumOfEnds.l1]) ?_
      refine Ev.neg (by omega) (Ev.bind (ldSum_ev o hoa (by omega)) ?_)
      have hb := wsumF_bound (vsort o) 0 (vsort_allIn hoa) (by omega) (by rw [vsort_length]; omega)
      rw [vsort_length] at hb
      rw [wrap_id (by omega) (by omega), wrap_succ hi (by omega)]
      exact ih _ ⟨by simp only [overM]; rw [hs, ho], by omega, by omega⟩) (by
      intro j o hj' ho jh
      have hol := ownJobs_length (i : Int) (plan.take j) (jobs.take j)
      rw [← ho, List.length_take] at hol
      refine Ev.step (fun k => by rw [spec_SumOfEnds.l1]) ?_
      refine Ev.pos (by omega) (Ev.pos (by omega) (Ev.pos (by omega) ?_))
      have e := ownJobs_snoc (i : Int) (rd plan (j : Int)) (rd jobs (j : Int)) (plan.take j) (jobs.take j) (by rw [List.length_take, List.length_take]; omega)
      rw [← take_rd (l := plan) (i := j) hj', ← take_rd (l := jobs) (i := j) (by omega)] at e
      by_cases c : rd plan (j : Int) = (i : Int)
      · rw [if_pos c] at e
        refine Ev.pos c (Ev.pos (by omega) (Ev.pos (by omega) ?_))
        rw [wrap_succ hj' (by omega)]
        exact jh _ (by rw [e, ho])
      · rw [if_neg c, List.append_nil] at e
        refine Ev.neg c ?_
        rw [wrap_succ hj' (by omega)]
        exact jh _ (by rw [e, ho]))
    exact inner 0 [] (by omega) rfl)
  exact key 0 0 (by omega) ⟨rfl, by omega, by omega⟩
theorem upTo_ev (n : Nat) (hn : n ≤ 1048576) : Ev (fun k => impl_upTo.f k (n : Int)) (upFrom 0 n) := by
  have key := range (n := n) (fun (s : List Int) i k => impl_upTo.l0 k s (n : Int) i) (fun _ _ => upFrom 0 n) (fun i s => s = upFrom 0 i) (by
    intro s hs
    refine Ev.step (fun k => by rw [impl_upTo.l0]) ?_
    rw [hs]
    exact Ev.neg (by omega) (Ev.now _)) (by
    intro i s hi hs ih
    refine Ev.step (fun k => by rw [impl_upTo.l0]) ?_
    refine Ev.pos (by omega) (Ev.pos (by rw [hs, upFrom_length]; omega) ?_)
    rw [wrap_succ hi (by omega)]
    exact ih _ (by rw [hs, upFrom_snoc, Int.zero_add]))
  exact key 0 [] (by omega) rfl
theorem cmp_eq (jobs : List Int) (hj : allIn jobs 0 1000000 = true) {x y : Int} (x0 : 0 ≤ x) (x1 : x < (jobs.length : Int)) (y0 : 0 ≤ y) (y1 : y < (jobs.length : Int)) : LongestFirst.cmp jobs x y = some (rd jobs y - rd jobs x) := by
  have h1 := allIn_at hj x0 x1
  have h2 := allIn_at hj y0 y1
  unfold LongestFirst.cmp
  rw [if_pos x0, if_pos x1, if_pos y0, if_pos y1, wrap_id (by omega) (by omega)]
theorem rd_at_len (A : List Int) (x : Int) (C : List Int) (j : Nat) (h : A.length = j) : rd (A ++ x :: C) (j : Int) = x := by
  subst h
  exact rd_mid A x C
theorem upFrom_cons {i n : Nat} (h : i < n) : upFrom (i : Int) (n - i) = (i : Int) :: upFrom ((i + 1 : Nat) : Int) (n - (i + 1)) := by
  obtain ⟨d, hd⟩ : ∃ d, n - i = d + 1 := ⟨n - i - 1, by omega⟩
  rw [hd, show n - (i + 1) = d from by omega]
  rfl
theorem longestFirst_ev (jobs : List Int) (hn : jobs.length ≤ 19) (hj : allIn jobs 0 1000000 = true) : Ev (fun k => impl_longestFirst.f k jobs) (order jobs) := by
  have hul := upFrom_length 0 jobs.length
  refine Ev.bind (upTo_ev jobs.length (by omega)) (Ev.pos (by omega) ?_)
  rw [hul]
  unfold slices_insertionSortCmpFunc_int.f
  rw [show wrap64 (0 + 1) = ((1 : Nat) : Int) from by rw [wrap_id (by omega) (by omega)]; rfl]
  have start : upFrom 0 jobs.length = orderF jobs 0 ++ upFrom ((0 : Nat) : Int) (jobs.length - 0) := rfl
  have key := range (n := jobs.length) (fun (s : List Int) i k => slices_insertionSortCmpFunc_int.l0 k s 0 (jobs.length : Int) (LongestFirst.cmp jobs) i) (fun _ _ => order jobs) (fun i s => s = orderF jobs i ++ upFrom (i : Int) (jobs.length - i)) (by
    intro s hs
    refine Ev.step (fun k => by rw [slices_insertionSortCmpFunc_int.l0]) ?_
    rw [hs, Nat.sub_self]
    refine Ev.neg (by omega) ?_
    rw [show upFrom (jobs.length : Int) 0 = [] from rfl, List.append_nil]
    exact Ev.now _) (by
    intro i s hi hs ih
    refine Ev.step (fun k => by rw [slices_insertionSortCmpFunc_int.l0]) ?_
    refine Ev.pos (by omega) ?_
    have hpl := orderF_length jobs i
    have hall := orderF_allIn jobs i
    have hnext : ∀ k0, insAt (orderF jobs i) k0 (i : Int) = orderF jobs (i + 1) → ∀ T : List Int, T = (orderF jobs i).take k0 ++ (i : Int) :: ((orderF jobs i).drop k0 ++ upFrom ((i + 1 : Nat) : Int) (jobs.length - (i + 1))) → Ev (fun k => slices_insertionSortCmpFunc_int.l0 k T 0 (jobs.length : Int) (LongestFirst.cmp jobs) (wrap64 ((i : Int) + 1))) (order jobs) := by
      intro k0 e T hT
      rw [wrap_succ hi (by omega)]
      refine ih _ ?_
      rw [hT, ← e, insAt, List.append_assoc]
      rfl
    rw [upFrom_cons hi] at hs
    have inner : ∀ (j : Nat) (T : List Int), j ≤ i → T = (orderF jobs i).take j ++ (i : Int) :: ((orderF jobs i).drop j ++ upFrom ((i + 1 : Nat) : Int) (jobs.length - (i + 1))) → insAt (orderF jobs i) (backTo jobs (orderF jobs i) (rd jobs (i : Int)) j) (i : Int) = orderF jobs (i + 1) → Ev (fun k => slices_insertionSortCmpFunc_int.l1 k T 0 (jobs.length : Int) (LongestFirst.cmp jobs) (i : Int) (j : Int)) (order jobs) := by
      intro j
      induction j with
      | zero =>
        intro T hj0 hT e
        refine Ev.step (fun k => by rw [slices_insertionSortCmpFunc_int.l1]) ?_
        exact Ev.neg (by omega) (hnext 0 e T hT)
      | succ j jh =>
        intro T hj1 hT e
        have e1 : wrap64 (((j + 1 : Nat) : Int) - 1) = (j : Int) := by rw [wrap_id (by omega) (by omega)]; omega
        have hq := allIn_rd hall (i := j) (by omega)
        have htl : ((orderF jobs i).take j).length = j := by rw [List.length_take]; omega
        have hT2 : T = (orderF jobs i).take j ++ rd (orderF jobs i) (j : Int) :: (i : Int) :: ((orderF jobs i).drop (j + 1) ++ upFrom ((i + 1 : Nat) : Int) (jobs.length - (i + 1))) := by
          rw [hT, take_rd (l := orderF jobs i) (by omega), List.append_assoc]
          rfl
        have hTl : T.length = jobs.length := by
          rw [hT, List.length_append, List.length_cons, List.length_append, List.length_take, List.length_drop, upFrom_length]; omega
        have r1 : rd T ((j + 1 : Nat) : Int) = (i : Int) := by
          rw [hT]; exact rd_at_len _ _ _ _ (by rw [List.length_take]; omega)
        have r0 : rd T (j : Int) = rd (orderF jobs i) (j : Int) := by
          rw [hT2]; exact rd_at_len _ _ _ _ htl
        refine Ev.step (fun k => by rw [slices_insertionSortCmpFunc_int.l1]) ?_
        rw [e1, r1, r0, cmp_eq jobs hj (by omega) (by omega) (by omega) (by omega)]
        refine Ev.pos (by omega) (Ev.pos (by omega) (Ev.pos (by omega) (Ev.pos (by omega) (Ev.pos (by omega) (Ev.some_ ?_)))))
        simp only [backTo] at e
        by_cases hlt : rd jobs (rd (orderF jobs i) (j : Int)) < rd jobs (i : Int)
        · rw [if_pos hlt] at e
          refine Ev.pos (by omega) (jh _ (by omega) ?_ e)
          rw [hT2, Int.toNat_natCast, Int.toNat_natCast]
          have := swap_last ((orderF jobs i).take j) (rd (orderF jobs i) (j : Int)) (i : Int) ((orderF jobs i).drop (j + 1) ++ upFrom ((i + 1 : Nat) : Int) (jobs.length - (i + 1)))
          rw [htl] at this
          rw [this, drop_rd (l := orderF jobs i) (i := j) (by omega)]
          rfl
        · rw [if_neg hlt] at e
          exact Ev.neg (by omega) (hnext (j + 1) e T hT)
    exact inner i s (Nat.le_refl _) (by rw [hs, List.take_of_length_le (by omega), List.drop_of_length_le (by omega)]; rfl) (by simp only [orderF]; rw [orderF_length]))
  by_cases h0 : jobs.length = 0
  · have e : jobs = [] := List.length_eq_zero_iff.1 h0
    subst e
    refine Ev.step (fun k => by rw [slices_insertionSortCmpFunc_int.l0]) ?_
    exact Ev.neg (by simp) (Ev.now _)
  · refine key 1 _ (by omega) ?_
    rw [start, upFrom_cons (by omega)]
    rfl
theorem within_eq (a b c : Int) : impl_within.f a b c = some (decide (b ≤ a ∧ a ≤ c)) := by
  unfold impl_within.f
  by_cases h : a ≥ b
  · rw [if_pos h]; simp [h]
  · rw [if_neg h]; simp [h]
theorem areIn_eq (l : List Int) (a b : Int) : impl_areIn.f l a b = some (l.all fun x => decide (a ≤ x ∧ x ≤ b)) := rfl
theorem areJobs_eq (l : List Int) : impl_AreJobs.f l = some (areJobs l) := by
  unfold impl_AreJobs.f areJobs
  rw [within_eq, Option.bind_some]
  by_cases h : (1 : Int) ≤ (l.length : Int) ∧ (l.length : Int) ≤ 9
  · rw [if_pos (decide_eq_true h), decide_eq_true h, Bool.true_and]
    rfl
  · rw [if_neg (by simpa using h), decide_eq_false h, Bool.false_and]
theorem areMachines_eq (l : List Int) (m : Int) : impl_areMachines.f l m = some (asked l m) := by
  unfold impl_areMachines.f asked
  rw [areJobs_eq, Option.bind_some]
  cases areJobs l with
  | true => rw [if_pos rfl, within_eq]; rfl
  | false => rfl
theorem isPlan_eq (l : List Int) (m : Int) (p : List Int) : impl_isPlan.f l m p = some (asked l m && planOf l m p) := by
  unfold impl_isPlan.f
  rw [areMachines_eq, Option.bind_some]
  cases h0 : asked l m with
  | true =>
    rw [if_pos rfl, Bool.true_and]
    unfold planOf
    by_cases h : (p.length : Int) = (l.length : Int)
    · rw [if_pos h, decide_eq_true h, Bool.true_and]; rfl
    · rw [if_neg h, decide_eq_false h, Bool.false_and]
  | false => rfl
theorem implSum_ev {jobs plan : List Int} {m : Int} (h : Planned jobs m plan) : Ev (fun k => impl_SumOfEnds.l0 k jobs plan 0 (List.replicate m.toNat 0) (order jobs) ((order jobs).length : Int) 0) (sumEnds jobs m plan, true) := by
  have hlen := h.len
  have hfew := h.few
  have hm1 := h.m1
  have hm4 := h.m4
  have hj := allIn_mono h.job (a' := 0) (b' := 1000) (by decide) (by decide)
  have ho := order_allIn jobs
  have hol := order_length jobs
  have hfin : sumEnds jobs m plan = overM (fun k => wsumF 0 (((order jobs).filter (fun x => decide (rd plan x = k))).map (rd jobs))) m.toNat := by
    unfold sumEnds
    refine overM_congr (fun i _ => ?_)
    have := own_vals jobs plan (i : Int) hlen jobs.length (Nat.le_refl _)
    rw [List.take_length, List.take_of_length_le (by omega)] at this
    rw [← this]
    rfl
  rw [hfin]
  generalize order jobs = ord at ho hol ⊢
  have key := range (n := ord.length) (fun (s : Int × List Int) i k => impl_SumOfEnds.l0 k jobs plan s.1 s.2 ord (ord.length : Int) i)
    (fun i s => (s.1 + overM (fun k => wsumF (rd s.2 k) (((ord.drop i).filter (fun x => decide (rd plan x = k))).map (rd jobs))) m.toNat, true))
    (fun i s => 0 ≤ s.1 ∧ s.1 ≤ 1000000 * (i : Int) ∧ s.2.length = m.toNat ∧ allIn s.2 0 (i : Int) = true) (by
    intro s _
    refine Ev.step (fun k => by rw [impl_SumOfEnds.l0]) ?_
    rw [List.drop_length]
    refine Ev.neg (by omega) ?_
    simp only [List.filter_nil, List.map_nil, wsumF, overM_zero, Int.add_zero]
    exact Ev.now _) (by
    intro i s hi ⟨i1, i2, i3, i4⟩ ih
    have hq := allIn_rd ho hi
    have hx := allIn_at hj (p := rd ord (i : Int)) (by omega) (by omega)
    have hp := allIn_at h.at_ (p := rd ord (i : Int)) (by omega) (by omega)
    have hc := allIn_at i4 (p := rd plan (rd ord (i : Int))) (by omega) (by omega)
    obtain ⟨q, hqn⟩ : ∃ q : Nat, rd plan (rd ord (i : Int)) = (q : Int) := ⟨(rd plan (rd ord (i : Int))).toNat, by omega⟩
    rw [hqn] at hp hc
    refine Ev.step (fun k => by rw [impl_SumOfEnds.l0]) ?_
    rw [hqn, Int.toNat_natCast]
    refine Ev.pos (by omega) (Ev.pos (by omega) (Ev.pos (by omega) (Ev.pos (by omega) (Ev.pos (by omega) (Ev.pos (by omega) (Ev.pos (by omega) (Ev.some_ (Ev.pos (by omega) ?_))))))))
    have hb := wsum_bound hx.1 hx.2 (c := rd s.2 (q : Int) + 1) (by omega) (by omega)
    rw [wrap_id (x := rd s.2 (q : Int) + 1) (by omega) (by omega), rd_set (by omega) (by omega), if_pos rfl, wrap_id (x := rd jobs (rd ord (i : Int)) * (rd s.2 (q : Int) + 1)) (by omega) (by omega), wrap_id (by omega) (by omega), wrap_succ hi (by omega)]
    have hnext := ih (s.1 + rd jobs (rd ord (i : Int)) * (rd s.2 (q : Int) + 1), s.2.set q (rd s.2 (q : Int) + 1)) ⟨by simp only; omega, by simp only; omega, by simpa using i3, allIn_set (allIn_mono i4 (Int.le_refl _) (by omega)) (by omega) (by omega) _⟩
    have e : s.1 + overM (fun k => wsumF (rd s.2 k) (((ord.drop i).filter (fun x => decide (rd plan x = k))).map (rd jobs))) m.toNat = s.1 + rd jobs (rd ord (i : Int)) * (rd s.2 (q : Int) + 1) + overM (fun k => wsumF (rd (s.2.set q (rd s.2 (q : Int) + 1)) k) (((ord.drop (i + 1)).filter (fun x => decide (rd plan x = k))).map (rd jobs))) m.toNat := by
      rw [overM_bump (p := q) (d := rd jobs (rd ord (i : Int)) * (rd s.2 (q : Int) + 1)) (g := fun k => wsumF (rd (s.2.set q (rd s.2 (q : Int) + 1)) k) (((ord.drop (i + 1)).filter (fun x => decide (rd plan x = k))).map (rd jobs))) (by omega) (fun j hj1 hj2 => ?_) ?_]
      · omega
      · rw [drop_rd hi, List.filter_cons, hqn, decide_eq_true rfl, if_pos rfl, rd_set (by omega) (by omega), if_pos rfl, List.map_cons]
        simp only [wsumF]
        omega
      · rw [drop_rd hi, List.filter_cons, hqn, decide_eq_false (by omega), if_neg (by decide), rd_set (by omega) (by omega), if_neg (by omega)]
    rw [e]
    exact hnext)
  have := key 0 (0, List.replicate m.toNat 0) (by omega) ⟨by simp, by simp, by simp, allIn_rep _ (by decide) (by decide)⟩
  simp only [List.drop_zero, Int.zero_add] at this
  have e : overM (fun k => wsumF (rd (List.replicate m.toNat 0) k) ((ord.filter (fun x => decide (rd plan x = k))).map (rd jobs))) m.toNat = overM (fun k => wsumF 0 ((ord.filter (fun x => decide (rd plan x = k))).map (rd jobs))) m.toNat := by
    refine overM_congr (fun i hi => ?_)
    rw [rd_get (by simpa using hi), List.getElem_replicate]
  rw [e] at this
  exact this
theorem both_SumOfEnds (l : List Int) (m : Int) (p : List Int) (hl : l.length ≤ 1048576) (hp : p.length ≤ 1048576) : ∃ w : Int × Bool, Ev (fun k => spec_SumOfEnds.f k l m p) w ∧ Ev (fun k => impl_SumOfEnds.f k l m p) w ∧ True := by
  cases h : (asked l m && planOf l m p) with
  | false =>
    refine ⟨(0, false), Ev.bind (ldBoth_ev l m p hl hp) ?_, Ev.bind (Ev.const (isPlan_eq l m p)) ?_, trivial⟩ <;> (rw [h]; exact Ev.neg (by decide) (Ev.now _))
  | true =>
    have hP := planned_of h
    have hm1 := hP.m1
    have hm4 := hP.m4
    have hfew := hP.few
    refine ⟨(sumEnds l m p, true), Ev.bind (ldBoth_ev l m p hl hp) ?_, Ev.bind (Ev.const (isPlan_eq l m p)) ?_, trivial⟩
    · rw [h]; exact Ev.pos rfl (specSum_ev hP)
    · rw [h]; exact Ev.pos rfl (Ev.pos (by omega) (Ev.pos (by omega) (Ev.bind (longestFirst_ev l (by omega) (allIn_mono hP.job (by decide) (by decide))) (implSum_ev hP))))
theorem FnExactSumOfEnds : laws_FnExactSumOfEnds.Pure := by
  intro l0 a1 l2 h0_ h1_ h2_ h3_ h4_ h5_ h6_
  refine Ev.rounds ?_
  refine Ev.congr (fun k => by rw [laws_FnExactSumOfEnds.f]) ?_
  by_cases hll0 : (l0.length : Int) > 1048576
  · exact Ev.pos hll0 (Ev.now _)
  refine Ev.neg hll0 ?_
  by_cases hll2 : (l2.length : Int) > 1048576
  · exact Ev.pos hll2 (Ev.now _)
  refine Ev.neg hll2 ?_
  have hnl0 : l0.length ≤ 1048576 := by omega
  have hnl2 : l2.length ≤ 1048576 := by omega
  obtain ⟨w, hS, hI, hW⟩ := both_SumOfEnds l0 a1 l2 hnl0 hnl2
  repeat first
    | (exact Ev.now _)
    | (refine Ev.bind (toIntS_ev l0 hnl0) ?_)
    | (refine Ev.bind (toIntS_ev l2 hnl2) ?_)
    | (refine Ev.bind hS ?_)
    | (refine Ev.bind hI ?_)
    | (refine Ev.bind (eqIntS_ev _ _ ?_ rfl) ?_; next => (first | assumption | exact hW | exact hW.1 | exact hW.2))
    | (refine Ev.pos ?_ ?_; next => (first | rfl | decide | omega | (dsimp only; omega) | (simp; done)))
    | (refine Ev.neg ?_ ?_; next => (first | decide | omega | (dsimp only; omega) | (simp; done)))
    | (refine Ev.step (fun k => by rw [laws_FnExactSumOfEnds.j0]) ?_)

end Go.Proofs.Yteneeeepocefaaa.Pure
