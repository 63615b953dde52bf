/- What is proved here: the pure statement of the law FnExactLeastSumOfEnds: for every input the law, as the print tells it, answers true. No condition. (The row that follows from it says it of the Go program.) -/
import Derived.Test.YteneeeepocefaaaPFnExactLeastSumOfEndsx4
import Derived.Test.YteneeeepocefaaaBase
set_option linter.unusedSimpArgs false
set_option linter.unusedVariables false
namespace Go.Proofs.Yteneeeepocefaaa.Pure
open Go.RowKit Go.Proofs.Yteneeeepocefaaa.PFnExactLeastSumOfEnds Go.Proofs.YteneeeepocefaaaW.PrintWords Go.Proofs.YteneeeepocefaaaW.PrintLast Go.Proofs.Yteneeeepocefaaa.Base

theorem toIntS_ev (l : List Int) (hl : l.length ≤ 1048576) : Ev (fun k => laws_toIntS.f k l) l := by
  have key := range (n := l.length) (fun (s : List Int) i k => laws_toIntS.l0 k l s i) (fun _ _ => l) (fun i s => s.length = l.length ∧ s.take i = l.take i) (by
    intro s ⟨h1, h2⟩
    refine Ev.step (fun k => by rw [laws_toIntS.l0]) ?_
    refine Ev.neg (by omega) ?_
    rw [List.take_of_length_le (by omega), List.take_of_length_le (by omega)] at h2
    rw [h2]
    exact Ev.now _) (by
    intro i s hi ⟨h1, h2⟩ ih
    refine Ev.step (fun k => by rw [laws_toIntS.l0]) ?_
    refine Ev.pos (by omega) (Ev.pos (by omega) (Ev.pos (by omega) ?_))
    rw [wrap_succ hi (by omega), Int.toNat_natCast]
    refine ih _ ⟨by simpa using h1, ?_⟩
    have hs : i < s.length := by omega
    rw [take_rd hi, ← h2, List.take_succ_eq_append_getElem (by simpa using hs), List.take_set_of_le (Nat.le_refl _)]
    simp)
  refine Ev.pos (by omega) (Ev.pos (by omega) ?_)
  rw [Int.toNat_natCast]
  exact key 0 _ (by omega) ⟨by simp, rfl⟩
theorem eqIntS_ev (l m : List Int) (hl : l.length ≤ 1048576) (h : l = m) : Ev (fun k => laws_eqIntS.f k l m) true := by
  subst h
  have key := range (n := l.length) (fun (_ : Unit) i k => laws_eqIntS.l0 k l l i) (fun _ _ => true) (fun _ _ => True) (by
    intro s _
    refine Ev.step (fun k => by rw [laws_eqIntS.l0]) ?_
    exact Ev.neg (by omega) (Ev.now _)) (by
    intro i s hi _ ih
    refine Ev.step (fun k => by rw [laws_eqIntS.l0]) ?_
    refine Ev.pos (by omega) (Ev.pos (by omega) (Ev.pos (by omega) (Ev.pos rfl ?_)))
    rw [wrap_succ hi (by omega)]
    exact ih s trivial)
  exact Ev.pos rfl (key 0 () (by omega) trivial)
theorem l1In_eq (a b c : Int) : spec_l1In.f a b c = some (decide (b ≤ a ∧ a ≤ c)) := by
  unfold spec_l1In.f
  by_cases h : a ≥ b
  · rw [if_pos h]; simp [h]
  · rw [if_neg h]; simp [h]
theorem l1All_ev (l : List Int) (a b : Int) (hl : l.length ≤ 1048576) : Ev (fun k => spec_l1All.f k l a b) (l.all fun x => decide (a ≤ x ∧ x ≤ b)) := by
  have key := range (n := l.length) (fun (_ : Unit) i k => spec_l1All.l0 k a b l (l.length : Int) i) (fun i _ => (l.drop i).all fun x => decide (a ≤ x ∧ x ≤ b)) (fun _ _ => True) (by
    intro s _
    refine Ev.step (fun k => by rw [spec_l1All.l0]) ?_
    rw [List.drop_length]
    exact Ev.neg (by omega) (Ev.now _)) (by
    intro i s hi _ ih
    refine Ev.step (fun k => by rw [spec_l1All.l0]) ?_
    refine Ev.pos (by omega) (Ev.pos (by omega) (Ev.pos (by omega) ?_))
    rw [l1In_eq, drop_rd hi, List.all_cons]
    refine Ev.some_ ?_
    cases h : decide (a ≤ rd l (i : Int) ∧ rd l (i : Int) ≤ b) with
    | true =>
      refine Ev.pos rfl ?_
      rw [wrap_succ hi (by omega), Bool.true_and]
      exact ih () trivial
    | false => exact Ev.neg (by decide) (Ev.now _))
  exact key 0 () (by omega) trivial
theorem ldGood_ev (l : List Int) (hl : l.length ≤ 1048576) : Ev (fun k => spec_ldGood.f k l) (areJobs l) := by
  refine Ev.congr (fun k => by rw [spec_ldGood.f, l1In_eq]) ?_
  refine Ev.some_ ?_
  unfold areJobs
  by_cases h : (1 : Int) ≤ (l.length : Int) ∧ (l.length : Int) ≤ 9
  · refine Ev.pos (decide_eq_true h) ?_
    rw [decide_eq_true h, Bool.true_and]
    exact Ev.bind (l1All_ev l 1 1000 hl) (Ev.now _)
  · refine Ev.neg (by simpa using h) ?_
    rw [decide_eq_false h, Bool.false_and]
    exact Ev.now _
def asked (l : List Int) (m : Int) : Bool := areJobs l && decide (1 ≤ m ∧ m ≤ 4)
theorem asked_iff {l : List Int} {m : Int} : asked l m = true ↔ areJobs l = true ∧ 1 ≤ m ∧ m ≤ 4 := by
  unfold asked
  rw [Bool.and_eq_true, decide_eq_true_eq]
theorem ldAsked_ev (l : List Int) (m : Int) (hl : l.length ≤ 1048576) : Ev (fun k => spec_ldAsked.f k l m) (asked l m) := by
  refine Ev.bind (ldGood_ev l hl) ?_
  unfold asked
  cases areJobs l with
  | true => exact Ev.pos rfl (Ev.bind (Ev.const (l1In_eq m 1 4)) (Ev.now _))
  | false => exact Ev.neg (by decide) (Ev.now _)
theorem l1Own_eq (l : List Int) (hl : l.length ≤ 1048576) : spec_l1Own.f l = some l := by
  unfold spec_l1Own.f
  simp only [Option.bind_some, List.nil_append, List.length_nil]
  rw [if_pos (by omega)]
theorem ldOrder_false (jobs : List Int) (hn : jobs.length ≤ 1000) : Ev (fun k => spec_ldOrder.f k jobs false) (upFrom 0 jobs.length) := by
  have key := range (n := jobs.length) (fun (s : List Int) i k => spec_ldOrder.l0 k jobs false s jobs (jobs.length : Int) i) (fun _ _ => upFrom 0 jobs.length) (fun i s => s = upFrom 0 i) (by
    intro s hs
    refine Ev.step (fun k => by rw [spec_ldOrder.l0]) ?_
    rw [hs]
    exact Ev.neg (by omega) (Ev.now _)) (by
    intro i s hi hs ih
    have hsl : s.length = i := by rw [hs, upFrom_length]
    refine Ev.step (fun k => by rw [spec_ldOrder.l0]) ?_
    refine Ev.pos (by omega) (Ev.pos (by omega) (Ev.pos (by omega) ?_))
    refine Ev.step (fun k => by rw [spec_ldOrder.l1]) ?_
    rw [hsl, Int.toNat_natCast, List.take_of_length_le (by omega), List.drop_of_length_le (by omega), l1Own_eq s (by omega), wrap_succ hi (by omega)]
    refine Ev.neg (by decide) (Ev.pos (by omega) (Ev.pos (by omega) (Ev.some_ (Ev.pos (by omega) (Ev.some_ (Ev.some_ (Ev.pos (by simp; omega) ?_)))))))
    exact ih _ (by rw [List.append_nil, hs, upFrom_snoc, Int.zero_add]))
  exact key 0 [] (by omega) rfl
theorem ldOrder_true (jobs : List Int) (hn : jobs.length ≤ 1000) : Ev (fun k => spec_ldOrder.f k jobs true) (order jobs) := by
  have key := range (n := jobs.length) (fun (s : List Int) i k => spec_ldOrder.l0 k jobs true s jobs (jobs.length : Int) i) (fun _ _ => order jobs) (fun i s => s = orderF jobs i) (by
    intro s hs
    refine Ev.step (fun k => by rw [spec_ldOrder.l0]) ?_
    rw [hs]
    exact Ev.neg (by omega) (Ev.now _)) (by
    intro i s hi hs ih
    have hsl : s.length = i := by rw [hs, orderF_length]
    have hall := orderF_allIn jobs i
    rw [← hs] at hall
    refine Ev.step (fun k => by rw [spec_ldOrder.l0]) ?_
    refine Ev.pos (by omega) (Ev.pos (by omega) (Ev.pos (by omega) ?_))
    have place : ∀ j : Nat, j ≤ s.length → insAt s j (i : Int) = orderF jobs (i + 1) → Ev (fun k => if 0 ≤ (j : Int) then (if (j : Int) ≤ (s.length : Int) then ((spec_l1Own.f (s.take (j : Int).toNat)).bind fun t142 => (if t142.length < 17592186044416 then ((some (t142 ++ [(i : Int)] : List Int)).bind fun y145 => ((some (s.drop (j : Int).toNat : List Int)).bind fun y148 => (if y145.length + y148.length < 17592186044416 then (spec_ldOrder.l0 k jobs true (y145 ++ y148) jobs (jobs.length : Int) (wrap64 ((i : Int) + 1))) else (none)))) else (none))) else (none)) else (none)) (order jobs) := by
      intro j hj e
      rw [Int.toNat_natCast, l1Own_eq _ (by rw [List.length_take]; omega), wrap_succ hi (by omega)]
      refine Ev.pos (by omega) (Ev.pos (by omega) (Ev.some_ (Ev.pos (by rw [List.length_take]; omega) (Ev.some_ (Ev.some_ (Ev.pos (by simp only [List.length_append, List.length_take, List.length_drop, List.length_singleton]; omega) ?_))))))
      refine ih _ ?_
      rw [← e, insAt, List.append_assoc]
      rfl
    have inner : ∀ j : Nat, j ≤ s.length → insAt s (backTo jobs s (rd jobs (i : Int)) j) (i : Int) = orderF jobs (i + 1) → Ev (fun k => spec_ldOrder.l1 k jobs true s (i : Int) (rd jobs (i : Int)) (j : Int) jobs (jobs.length : Int) (i : Int)) (order jobs) := by
      intro j
      induction j with
      | zero =>
        intro hj e
        refine Ev.step (fun k => by rw [spec_ldOrder.l1]) ?_
        exact Ev.pos rfl (Ev.neg (by omega) (place 0 hj e))
      | succ j jh =>
        intro hj e
        have hq := allIn_rd hall (i := j) (by omega)
        have e1 : wrap64 (((j + 1 : Nat) : Int) - 1) = (j : Int) := by rw [wrap_id (by omega) (by omega)]; omega
        refine Ev.step (fun k => by rw [spec_ldOrder.l1]) ?_
        rw [e1]
        refine Ev.pos rfl (Ev.pos (by omega) (Ev.pos (by omega) (Ev.pos (by omega) (Ev.pos (by omega) (Ev.pos (by omega) ?_)))))
        simp only [backTo] at e
        by_cases hlt : rd jobs (rd s (j : Int)) < rd jobs (i : Int)
        · rw [if_pos hlt] at e
          exact Ev.pos hlt (jh (by omega) e)
        · rw [if_neg hlt] at e
          exact Ev.neg hlt (place (j + 1) hj e)
    exact inner s.length (Nat.le_refl _) (by simp only [orderF]; rw [hs]))
  exact key 0 [] (by omega) rfl
theorem leastF_bound {m : Int} (hm : 1 ≤ m) {x : Int} (h0 : 0 ≤ x) (h1 : x ≤ 1000) {i : Nat} (hi : i ≤ 1000) : 0 ≤ x * ((i : Int) / m + 1) ∧ x * ((i : Int) / m + 1) ≤ 2000000 ∧ 0 ≤ (i : Int) / m ∧ (i : Int) / m ≤ 1000 := by
  have h2 : 0 ≤ (i : Int) / m := Int.ediv_nonneg (by omega) (by omega)
  have h3 := Int.ediv_le_self (a := (i : Int)) m (by omega)
  refine ⟨Int.mul_nonneg h0 (by omega), ?_, h2, by omega⟩
  have := Int.mul_le_mul h1 (show (i : Int) / m + 1 ≤ 2000 by omega) (by omega) (by omega : (0 : Int) ≤ 1000)
  omega
theorem specLeast_loop (jobs ord : List Int) (m : Int) (hm : 1 ≤ m) (hj : allIn jobs 0 1000 = true) (ho : allIn ord 0 ((jobs.length : Int) - 1) = true) (hn : ord.length ≤ 1000) : Ev (fun k => spec_LeastSumOfEnds.l0 k jobs m 0 ord (ord.length : Int) 0) (leastF m 0 (ord.map (rd jobs)), true) := by
  have key := range (n := ord.length) (fun (s : Int) i k => spec_LeastSumOfEnds.l0 k jobs m s ord (ord.length : Int) i) (fun i s => (s + leastF m i ((ord.drop i).map (rd jobs)), true)) (fun i s => 0 ≤ s ∧ s ≤ 2000000 * (i : Int)) (by
    intro s _
    refine Ev.step (fun k => by rw [spec_LeastSumOfEnds.l0]) ?_
    rw [List.drop_length]
    refine Ev.neg (by omega) ?_
    simp only [List.map_nil, leastF, Int.add_zero]
    exact Ev.now _) (by
    intro i s hi hs ih
    have hq := allIn_rd ho hi
    have hx := allIn_at hj (p := rd ord (i : Int)) (by omega) (by omega)
    obtain ⟨b1, b2, b3, b4⟩ := leastF_bound hm hx.1 hx.2 (i := i) (by omega)
    refine Ev.step (fun k => by rw [spec_LeastSumOfEnds.l0]) ?_
    refine Ev.pos (by omega) (Ev.pos (by omega) (Ev.pos (by omega) (Ev.pos (by omega) (Ev.pos (by omega) (Ev.neg (by omega) ?_)))))
    rw [Int.tdiv_eq_ediv_of_nonneg (by omega), wrap_id (x := (i : Int) / m) (by omega) (by omega), wrap_id (x := (i : Int) / m + 1) (by omega) (by omega), wrap_id (x := rd jobs (rd ord (i : Int)) * ((i : Int) / m + 1)) (by omega) (by omega), wrap_id (by omega) (by omega), wrap_succ hi (by omega), drop_rd hi, List.map_cons]
    simp only [leastF]
    rw [← Int.add_assoc]
    exact ih _ (by omega))
  have := key 0 0 (by omega) (by omega)
  rw [List.drop_zero, Int.zero_add] at this
  exact this
theorem within_eq (a b c : Int) : impl_within.f a b c = some (decide (b ≤ a ∧ a ≤ c)) := by
  unfold impl_within.f
  by_cases h : a ≥ b
  · rw [if_pos h]; simp [h]
  · rw [if_neg h]; simp [h]
theorem areIn_eq (l : List Int) (a b : Int) : impl_areIn.f l a b = some (l.all fun x => decide (a ≤ x ∧ x ≤ b)) := rfl
theorem areJobs_eq (l : List Int) : impl_AreJobs.f l = some (areJobs l) := by
  unfold impl_AreJobs.f areJobs
  rw [within_eq, Option.bind_some]
  by_cases h : (1 : Int) ≤ (l.length : Int) ∧ (l.length : Int) ≤ 9
  · rw [if_pos (decide_eq_true h), decide_eq_true h, Bool.true_and]
    rfl
  · rw [if_neg (by simpa using h), decide_eq_false h, Bool.false_and]
theorem areMachines_eq (l : List Int) (m : Int) : impl_areMachines.f l m = some (asked l m) := by
  unfold impl_areMachines.f asked
  rw [areJobs_eq, Option.bind_some]
  cases areJobs l with
  | true => rw [if_pos rfl, within_eq]; rfl
  | false => rfl
theorem upTo_ev (n : Nat) (hn : n ≤ 1048576) : Ev (fun k => impl_upTo.f k (n : Int)) (upFrom 0 n) := by
  have key := range (n := n) (fun (s : List Int) i k => impl_upTo.l0 k s (n : Int) i) (fun _ _ => upFrom 0 n) (fun i s => s = upFrom 0 i) (by
    intro s hs
    refine Ev.step (fun k => by rw [impl_upTo.l0]) ?_
    rw [hs]
    exact Ev.neg (by omega) (Ev.now _)) (by
    intro i s hi hs ih
    refine Ev.step (fun k => by rw [impl_upTo.l0]) ?_
    refine Ev.pos (by omega) (Ev.pos (by rw [hs, upFrom_length]; omega) ?_)
    rw [wrap_succ hi (by omega)]
    exact ih _ (by rw [hs, upFrom_snoc, Int.zero_add]))
  exact key 0 [] (by omega) rfl
theorem cmp_eq (jobs : List Int) (hj : allIn jobs 0 1000000 = true) {x y : Int} (x0 : 0 ≤ x) (x1 : x < (jobs.length : Int)) (y0 : 0 ≤ y) (y1 : y < (jobs.length : Int)) : LongestFirst.cmp jobs x y = some (rd jobs y - rd jobs x) := by
  have h1 := allIn_at hj x0 x1
  have h2 := allIn_at hj y0 y1
  unfold LongestFirst.cmp
  rw [if_pos x0, if_pos x1, if_pos y0, if_pos y1, wrap_id (by omega) (by omega)]
theorem rd_at_len (A : List Int) (x : Int) (C : List Int) (j : Nat) (h : A.length = j) : rd (A ++ x :: C) (j : Int) = x := by
  subst h
  exact rd_mid A x C
theorem upFrom_cons {i n : Nat} (h : i < n) : upFrom (i : Int) (n - i) = (i : Int) :: upFrom ((i + 1 : Nat) : Int) (n - (i + 1)) := by
  obtain ⟨d, hd⟩ : ∃ d, n - i = d + 1 := ⟨n - i - 1, by omega⟩
  rw [hd, show n - (i + 1) = d from by omega]
  rfl
theorem longestFirst_ev (jobs : List Int) (hn : jobs.length ≤ 19) (hj : allIn jobs 0 1000000 = true) : Ev (fun k => impl_longestFirst.f k jobs) (order jobs) := by
  have hul := upFrom_length 0 jobs.length
  refine Ev.bind (upTo_ev jobs.length (by omega)) (Ev.pos (by omega) ?_)
  rw [hul]
  unfold slices_insertionSortCmpFunc_int.f
  rw [show wrap64 (0 + 1) = ((1 : Nat) : Int) from by rw [wrap_id (by omega) (by omega)]; rfl]
  have start : upFrom 0 jobs.length = orderF jobs 0 ++ upFrom ((0 : Nat) : Int) (jobs.length - 0) := rfl
  have key := range (n := jobs.length) (fun (s : List Int) i k => slices_insertionSortCmpFunc_int.l0 k s 0 (jobs.length : Int) (LongestFirst.cmp jobs) i) (fun _ _ => order jobs) (fun i s => s = orderF jobs i ++ upFrom (i : Int) (jobs.length - i)) (by
    intro s hs
    refine Ev.step (fun k => by rw [slices_insertionSortCmpFunc_int.l0]) ?_
    rw [hs, Nat.sub_self]
    refine Ev.neg (by omega) ?_
    rw [show upFrom (jobs.length : Int) 0 = [] from rfl, List.append_nil]
    exact Ev.now _) (by
    intro i s hi hs ih
    refine Ev.step (fun k => by rw [slices_insertionSortCmpFunc_int.l0]) ?_
    refine Ev.pos (by omega) ?_
    have hpl := orderF_length jobs i
    have hall := orderF_allIn jobs i
    have hnext : ∀ k0, insAt (orderF jobs i) k0 (i : Int) = orderF jobs (i + 1) → ∀ T : List Int, T = (orderF jobs i).take k0 ++ (i : Int) :: ((orderF jobs i).drop k0 ++ upFrom ((i + 1 : Nat) : Int) (jobs.length - (i + 1))) → Ev (fun k => slices_insertionSortCmpFunc_int.l0 k T 0 (jobs.length : Int) (LongestFirst.cmp jobs) (wrap64 ((i : Int) + 1))) (order jobs) := by
      intro k0 e T hT
      rw [wrap_succ hi (by omega)]
      refine ih _ ?_
      rw [hT, ← e, insAt, List.append_assoc]
      rfl
    rw [upFrom_cons hi] at hs
    have inner : ∀ (j : Nat) (T : List Int), j ≤ i → T = (orderF jobs i).take j ++ (i : Int) :: ((orderF jobs i).drop j ++ upFrom ((i + 1 : Nat) : Int) (jobs.length - (i + 1))) → insAt (orderF jobs i) (backTo jobs (orderF jobs i) (rd jobs (i : Int)) j) (i : Int) = orderF jobs (i + 1) → Ev (fun k => slices_insertionSortCmpFunc_int.l1 k T 0 (jobs.length : Int) (LongestFirst.cmp jobs) (i : Int) (j : Int)) (order jobs) := by
      intro j
      induction j with
      | zero =>
        intro T hj0 hT e
        refine Ev.step (fun k => by rw [slices_insertionSortCmpFunc_int.l1]) ?_
        exact Ev.neg (by omega) (hnext 0 e T hT)
      | succ j jh =>
        intro T hj1 hT e
        have e1 : wrap64 (((j + 1 : Nat) : Int) - 1) = (j : Int) := by rw [wrap_id (by omega) (by omega)]; omega
        have hq := allIn_rd hall (i := j) (by omega)
        have htl : ((orderF jobs i).take j).length = j := by rw [List.length_take]; omega
        have hT2 : T = (orderF jobs i).take j ++ rd (orderF jobs i) (j : Int) :: (i : Int) :: ((orderF jobs i).drop (j + 1) ++ upFrom ((i + 1 : Nat) : Int) (jobs.length - (i + 1))) := by
          rw [hT, take_rd (l := orderF jobs i) (by omega), List.append_assoc]
          rfl
        have hTl : T.length = jobs.length := by
          rw [hT, List.length_append, List.length_cons, List.length_append, List.length_take, List.length_drop, upFrom_length]; omega
        have r1 : rd T ((j + 1 : Nat) : Int) = (i : Int) := by
          rw [hT]; exact rd_at_len _ _ _ _ (by rw [List.length_take]; omega)
        have r0 : rd T (j : Int) = rd (orderF jobs i) (j : Int) := by
          rw [hT2]; exact rd_at_len _ _ _ _ htl
        refine Ev.step (fun k => by rw [slices_insertionSortCmpFunc_int.l1]) ?_
        rw [e1, r1, r0, cmp_eq jobs hj (by omega) (by omega) (by omega) (by omega)]
        refine Ev.pos (by omega) (Ev.pos (by omega) (Ev.pos (by omega) (Ev.pos (by omega) (Ev.pos (by omega) (Ev.some_ ?_)))))
        simp only [backTo] at e
        by_cases hlt : rd jobs (rd (orderF jobs i) (j : Int)) < rd jobs (i : Int)
        · rw [if_pos hlt] at e
          refine Ev.pos (by omega) (jh _ (by omega) ?_ e)
          rw [hT2, Int.toNat_natCast, Int.toNat_natCast]
          have := swap_last ((orderF jobs i).take j) (rd (orderF jobs i) (j : Int)) (i : Int) ((orderF jobs i).drop (j + 1) ++ upFrom ((i + 1 : Nat) : Int) (jobs.length - (i + 1)))
          rw [htl] at this
          rw [this, drop_rd (l := orderF jobs i) (i := j) (by omega)]
          rfl
        · rw [if_neg hlt] at e
          exact Ev.neg (by omega) (hnext (j + 1) e T hT)
    exact inner i s (Nat.le_refl _) (by rw [hs, List.take_of_length_le (by omega), List.drop_of_length_le (by omega)]; rfl) (by simp only [orderF]; rw [orderF_length]))
  by_cases h0 : jobs.length = 0
  · have e : jobs = [] := List.length_eq_zero_iff.1 h0
    subst e
    refine Ev.step (fun k => by rw [slices_insertionSortCmpFunc_int.l0]) ?_
    exact Ev.neg (by simp) (Ev.now _)
  · refine key 1 _ (by omega) ?_
    rw [start, upFrom_cons (by omega)]
    rfl
theorem implLeast_loop (jobs ord : List Int) (m : Int) (hm : 1 ≤ m) (hj : allIn jobs 0 1000 = true) (ho : allIn ord 0 ((jobs.length : Int) - 1) = true) (hn : ord.length ≤ 1000) : Ev (fun k => impl_LeastSumOfEnds.l0 k jobs m 0 ord (ord.length : Int) 0) (leastF m 0 (ord.map (rd jobs)), true) := by
  have key := range (n := ord.length) (fun (s : Int) i k => impl_LeastSumOfEnds.l0 k jobs m s ord (ord.length : Int) i) (fun i s => (s + leastF m i ((ord.drop i).map (rd jobs)), true)) (fun i s => 0 ≤ s ∧ s ≤ 2000000 * (i : Int)) (by
    intro s _
    refine Ev.step (fun k => by rw [impl_LeastSumOfEnds.l0]) ?_
    rw [List.drop_length]
    refine Ev.neg (by omega) ?_
    simp only [List.map_nil, leastF, Int.add_zero]
    exact Ev.now _) (by
    intro i s hi hs ih
    have hq := allIn_rd ho hi
    have hx := allIn_at hj (p := rd ord (i : Int)) (by omega) (by omega)
    obtain ⟨b1, b2, b3, b4⟩ := leastF_bound hm hx.1 hx.2 (i := i) (by omega)
    refine Ev.step (fun k => by rw [impl_LeastSumOfEnds.l0]) ?_
    refine Ev.pos (by omega) (Ev.pos (by omega) (Ev.pos (by omega) (Ev.pos (by omega) (Ev.pos (by omega) (Ev.neg (by omega) ?_)))))
    rw [Int.tdiv_eq_ediv_of_nonneg (by omega), wrap_id (x := (i : Int) / m) (by omega) (by omega), wrap_id (x := (i : Int) / m + 1) (by omega) (by omega), wrap_id (x := rd jobs (rd ord (i : Int)) * ((i : Int) / m + 1)) (by omega) (by omega), wrap_id (by omega) (by omega), wrap_succ hi (by omega), drop_rd hi, List.map_cons]
    simp only [leastF]
    rw [← Int.add_assoc]
    exact ih _ (by omega))
  have := key 0 0 (by omega) (by omega)
  rw [List.drop_zero, Int.zero_add] at this
  exact this
theorem both_LeastSumOfEnds (l : List Int) (m : Int) (hl : l.length ≤ 1048576) : ∃ w : Int × Bool, Ev (fun k => spec_LeastSumOfEnds.f k l m) w ∧ Ev (fun k => impl_LeastSumOfEnds.f k l m) w ∧ True := by
  cases h : asked l m with
  | false =>
    refine ⟨(0, false), Ev.bind (ldAsked_ev l m hl) ?_, Ev.bind (Ev.const (areMachines_eq l m)) ?_, trivial⟩ <;> (rw [h]; exact Ev.neg (by decide) (Ev.now _))
  | true =>
    obtain ⟨h3, h4, h5⟩ := asked_iff.1 h
    obtain ⟨h6, h7, h8⟩ := areJobs_len h3
    have hu := order_allIn l
    have hul := order_length l
    have hj := allIn_mono h8 (a' := 0) (b' := 1000) (by decide) (by decide)
    refine ⟨(leastF m 0 ((order l).map (rd l)), true), Ev.bind (ldAsked_ev l m hl) ?_, Ev.bind (Ev.const (areMachines_eq l m)) ?_, trivial⟩
    · rw [h]; exact Ev.pos rfl (Ev.bind (ldOrder_true l (by omega)) (specLeast_loop l _ m h4 hj hu (by omega)))
    · rw [h]; exact Ev.pos rfl (Ev.bind (longestFirst_ev l (by omega) (allIn_mono h8 (by decide) (by decide))) (implLeast_loop l _ m h4 hj hu (by omega)))
theorem FnExactLeastSumOfEnds : laws_FnExactLeastSumOfEnds.Pure := by
  intro l0 a1 h0_ h1_ h2_ h3_
  refine Ev.rounds ?_
  refine Ev.congr (fun k => by rw [laws_FnExactLeastSumOfEnds.f]) ?_
  by_cases hll0 : (l0.length : Int) > 1048576
  · exact Ev.pos hll0 (Ev.now _)
  refine Ev.neg hll0 ?_
  have hnl0 : l0.length ≤ 1048576 := by omega
  obtain ⟨w, hS, hI, hW⟩ := both_LeastSumOfEnds l0 a1 hnl0
  repeat first
    | (exact Ev.now _)
    | (refine Ev.bind (toIntS_ev l0 hnl0) ?_)
    | (refine Ev.bind hS ?_)
    | (refine Ev.bind hI ?_)
    | (refine Ev.bind (eqIntS_ev _ _ ?_ rfl) ?_; next => (first | assumption | exact hW | exact hW.1 | exact hW.2))
    | (refine Ev.pos ?_ ?_; next => (first | rfl | decide | omega | (dsimp only; omega) | (simp; done)))
    | (refine Ev.neg ?_ ?_; next => (first | decide | omega | (dsimp only; omega) | (simp; done)))
    | (refine Ev.step (fun k => by rw [laws_FnExactLeastSumOfEnds.j0]) ?_)

end Go.Proofs.Yteneeeepocefaaa.Pure
