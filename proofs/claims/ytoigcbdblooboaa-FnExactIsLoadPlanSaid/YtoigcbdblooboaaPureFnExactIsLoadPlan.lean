import Derived.Test.YtoigcbdblooboaaPFnExactIsLoadPlanx2
import Derived.Test.YtoigcbdblooboaaBase
set_option linter.unusedSimpArgs false
set_option linter.unusedVariables false
namespace Go.Proofs.Ytoigcbdblooboaa.Pure
open Go.RowKit Go.Proofs.Ytoigcbdblooboaa.PFnExactIsLoadPlan Go.Proofs.YtoigcbdblooboaaW.PrintWords Go.Proofs.YtoigcbdblooboaaW.PrintLast Go.Proofs.Ytoigcbdblooboaa.Base

theorem toIntS_ev (l : List Int) (hl : l.length ≤ 1048576) : Ev (fun k => laws_toIntS.f k l) l := by
  have key := range (n := l.length) (fun (s : List Int) i k => laws_toIntS.l0 k l s i) (fun _ _ => l) (fun i s => s.length = l.length ∧ s.take i = l.take i) (by
    intro s ⟨h1, h2⟩
    refine Ev.step (fun k => by rw [laws_toIntS.l0]) ?_
    refine Ev.neg (by omega) ?_
    rw [List.take_of_length_le (by omega), List.take_of_length_le (by omega)] at h2
    rw [h2]
    exact Ev.now _) (by
    intro i s hi ⟨h1, h2⟩ ih
    refine Ev.step (fun k => by rw [laws_toIntS.l0]) ?_
    refine Ev.pos (by omega) (Ev.pos (by omega) (Ev.pos (by omega) ?_))
    rw [wrap_succ hi (by omega), Int.toNat_natCast]
    refine ih _ ⟨by simpa using h1, ?_⟩
    have hs : i < s.length := by omega
    rw [take_rd hi, ← h2, List.take_succ_eq_append_getElem (by simpa using hs), List.take_set_of_le (Nat.le_refl _)]
    simp)
  refine Ev.pos (by omega) (Ev.pos (by omega) ?_)
  rw [Int.toNat_natCast]
  exact key 0 _ (by omega) ⟨by simp, rfl⟩
theorem eqIntS_ev (l m : List Int) (hl : l.length ≤ 1048576) (h : l = m) : Ev (fun k => laws_eqIntS.f k l m) true := by
  subst h
  have key := range (n := l.length) (fun (_ : Unit) i k => laws_eqIntS.l0 k l l i) (fun _ _ => true) (fun _ _ => True) (by
    intro s _
    refine Ev.step (fun k => by rw [laws_eqIntS.l0]) ?_
    exact Ev.neg (by omega) (Ev.now _)) (by
    intro i s hi _ ih
    refine Ev.step (fun k => by rw [laws_eqIntS.l0]) ?_
    refine Ev.pos (by omega) (Ev.pos (by omega) (Ev.pos (by omega) (Ev.pos rfl ?_)))
    rw [wrap_succ hi (by omega)]
    exact ih s trivial)
  exact Ev.pos rfl (key 0 () (by omega) trivial)
theorem l1In_eq (a b c : Int) : spec_l1In.f a b c = some (decide (b ≤ a ∧ a ≤ c)) := by
  unfold spec_l1In.f
  by_cases h : a ≥ b
  · rw [if_pos h]; simp [h]
  · rw [if_neg h]; simp [h]
theorem l1All_ev (l : List Int) (a b : Int) (hl : l.length ≤ 1048576) : Ev (fun k => spec_l1All.f k l a b) (l.all fun x => decide (a ≤ x ∧ x ≤ b)) := by
  have key := range (n := l.length) (fun (_ : Unit) i k => spec_l1All.l0 k a b l (l.length : Int) i) (fun i _ => (l.drop i).all fun x => decide (a ≤ x ∧ x ≤ b)) (fun _ _ => True) (by
    intro s _
    refine Ev.step (fun k => by rw [spec_l1All.l0]) ?_
    rw [List.drop_length]
    exact Ev.neg (by omega) (Ev.now _)) (by
    intro i s hi _ ih
    refine Ev.step (fun k => by rw [spec_l1All.l0]) ?_
    refine Ev.pos (by omega) (Ev.pos (by omega) (Ev.pos (by omega) ?_))
    rw [l1In_eq, drop_rd hi, List.all_cons]
    refine Ev.some_ ?_
    cases h : decide (a ≤ rd l (i : Int) ∧ rd l (i : Int) ≤ b) with
    | true =>
      refine Ev.pos rfl ?_
      rw [wrap_succ hi (by omega), Bool.true_and]
      exact ih () trivial
    | false => exact Ev.neg (by decide) (Ev.now _))
  exact key 0 () (by omega) trivial
theorem ldGood_ev (l : List Int) (hl : l.length ≤ 1048576) : Ev (fun k => spec_ldGood.f k l) (areJobs l) := by
  refine Ev.congr (fun k => by rw [spec_ldGood.f, l1In_eq]) ?_
  refine Ev.some_ ?_
  unfold areJobs
  by_cases h : (1 : Int) ≤ (l.length : Int) ∧ (l.length : Int) ≤ 9
  · refine Ev.pos (decide_eq_true h) ?_
    rw [decide_eq_true h, Bool.true_and]
    exact Ev.bind (l1All_ev l 1 1000 hl) (Ev.now _)
  · refine Ev.neg (by simpa using h) ?_
    rw [decide_eq_false h, Bool.false_and]
    exact Ev.now _
def asked (l : List Int) (m : Int) : Bool := areJobs l && decide (1 ≤ m ∧ m ≤ 4)
theorem asked_iff {l : List Int} {m : Int} : asked l m = true ↔ areJobs l = true ∧ 1 ≤ m ∧ m ≤ 4 := by
  unfold asked
  rw [Bool.and_eq_true, decide_eq_true_eq]
theorem ldAsked_ev (l : List Int) (m : Int) (hl : l.length ≤ 1048576) : Ev (fun k => spec_ldAsked.f k l m) (asked l m) := by
  refine Ev.bind (ldGood_ev l hl) ?_
  unfold asked
  cases areJobs l with
  | true => exact Ev.pos rfl (Ev.bind (Ev.const (l1In_eq m 1 4)) (Ev.now _))
  | false => exact Ev.neg (by decide) (Ev.now _)
def planOf (l : List Int) (m : Int) (p : List Int) : Bool := decide ((p.length : Int) = (l.length : Int)) && allIn p 0 (wrap64 (m - 1))
theorem ldPlan_ev (l : List Int) (m : Int) (p : List Int) (hp : p.length ≤ 1048576) : Ev (fun k => spec_ldPlan.f k l m p) (planOf l m p) := by
  unfold planOf
  by_cases h : (p.length : Int) = (l.length : Int)
  · rw [decide_eq_true h, Bool.true_and]
    exact Ev.pos h (Ev.bind (l1All_ev p 0 _ hp) (Ev.now _))
  · rw [decide_eq_false h, Bool.false_and]
    exact Ev.neg h (Ev.now _)
theorem within_eq (a b c : Int) : impl_within.f a b c = some (decide (b ≤ a ∧ a ≤ c)) := by
  unfold impl_within.f
  by_cases h : a ≥ b
  · rw [if_pos h]; simp [h]
  · rw [if_neg h]; simp [h]
theorem areIn_eq (l : List Int) (a b : Int) : impl_areIn.f l a b = some (l.all fun x => decide (a ≤ x ∧ x ≤ b)) := rfl
theorem areJobs_eq (l : List Int) : impl_AreJobs.f l = some (areJobs l) := by
  unfold impl_AreJobs.f areJobs
  rw [within_eq, Option.bind_some]
  by_cases h : (1 : Int) ≤ (l.length : Int) ∧ (l.length : Int) ≤ 9
  · rw [if_pos (decide_eq_true h), decide_eq_true h, Bool.true_and]
    rfl
  · rw [if_neg (by simpa using h), decide_eq_false h, Bool.false_and]
theorem areMachines_eq (l : List Int) (m : Int) : impl_areMachines.f l m = some (asked l m) := by
  unfold impl_areMachines.f asked
  rw [areJobs_eq, Option.bind_some]
  cases areJobs l with
  | true => rw [if_pos rfl, within_eq]; rfl
  | false => rfl
theorem isPlan_eq (l : List Int) (m : Int) (p : List Int) : impl_isPlan.f l m p = some (asked l m && planOf l m p) := by
  unfold impl_isPlan.f
  rw [areMachines_eq, Option.bind_some]
  cases h0 : asked l m with
  | true =>
    rw [if_pos rfl, Bool.true_and]
    unfold planOf
    by_cases h : (p.length : Int) = (l.length : Int)
    · rw [if_pos h, decide_eq_true h, Bool.true_and]; rfl
    · rw [if_neg h, decide_eq_false h, Bool.false_and]
  | false => rfl
theorem both_IsLoadPlan (l : List Int) (m : Int) (p : List Int) (hl : l.length ≤ 1048576) (hp : p.length ≤ 1048576) : ∃ w : Bool × Bool, Ev (fun k => spec_IsLoadPlan.f k l m p) w ∧ Ev (fun _ => impl_IsLoadPlan.f l m p) w ∧ True := by
  refine ⟨(asked l m && planOf l m p, asked l m), ?_, Ev.const ?_, trivial⟩
  · refine Ev.bind (ldAsked_ev l m hl) ?_
    cases asked l m with
    | true => exact Ev.pos rfl (Ev.bind (ldPlan_ev l m p hp) (Ev.now _))
    | false => exact Ev.neg (by decide) (Ev.now _)
  · unfold impl_IsLoadPlan.f
    rw [isPlan_eq, areMachines_eq]
    rfl
theorem FnExactIsLoadPlan : laws_FnExactIsLoadPlan.Pure := by
  intro l0 a1 l2 h0_ h1_ h2_ h3_ h4_ h5_ h6_
  refine Ev.rounds ?_
  refine Ev.congr (fun k => by rw [laws_FnExactIsLoadPlan.f]) ?_
  by_cases hll0 : (l0.length : Int) > 1048576
  · exact Ev.pos hll0 (Ev.now _)
  refine Ev.neg hll0 ?_
  by_cases hll2 : (l2.length : Int) > 1048576
  · exact Ev.pos hll2 (Ev.now _)
  refine Ev.neg hll2 ?_
  have hnl0 : l0.length ≤ 1048576 := by omega
  have hnl2 : l2.length ≤ 1048576 := by omega
  obtain ⟨w, hS, hI, hW⟩ := both_IsLoadPlan l0 a1 l2 hnl0 hnl2
  repeat first
    | (exact Ev.now _)
    | (refine Ev.bind (toIntS_ev l0 hnl0) ?_)
    | (refine Ev.bind (toIntS_ev l2 hnl2) ?_)
    | (refine Ev.bind hS ?_)
    | (refine Ev.bind hI ?_)
    | (refine Ev.bind (eqIntS_ev _ _ ?_ rfl) ?_; next => (first | assumption | exact hW | exact hW.1 | exact hW.2))
    | (refine Ev.pos ?_ ?_; next => (first | rfl | decide | omega | (dsimp only; omega) | (simp; done)))
    | (refine Ev.neg ?_ ?_; next => (first | decide | omega | (dsimp only; omega) | (simp; done)))
    | (refine Ev.step (fun k => by rw [laws_FnExactIsLoadPlan.j0]) ?_)

end Go.Proofs.Ytoigcbdblooboaa.Pure
