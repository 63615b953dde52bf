/- What is proved here: the pure statement of the law FnExactLoadsOf: for every input the law, as the print tells it, answers true. No condition. (The row that follows from it says it of the Go program.) -/
import Derived.Test.YtamfmfcibecckaaPFnExactLoadsOfx4
import Derived.Test.YtamfmfcibecckaaBase
set_option linter.unusedSimpArgs false
set_option linter.unusedVariables false
namespace Go.Proofs.Ytamfmfcibecckaa.Pure
open Go.RowKit Go.Proofs.Ytamfmfcibecckaa.PFnExactLoadsOf Go.Proofs.YtamfmfcibecckaaW.PrintWords Go.Proofs.YtamfmfcibecckaaW.PrintLast Go.Proofs.Ytamfmfcibecckaa.Base

theorem toIntS_ev (l : List Int) (hl : l.length ≤ 1048576) : Ev (fun k => laws_toIntS.f k l) l := by
  have key := range (n := l.length) (fun (s : List Int) i k => laws_toIntS.l0 k l s i) (fun _ _ => l) (fun i s => s.length = l.length ∧ s.take i = l.take i) (by
    intro s ⟨h1, h2⟩
    refine Ev.step (fun k => by rw [laws_toIntS.l0]) ?_
    refine Ev.neg (by omega) ?_
    rw [List.take_of_length_le (by omega), List.take_of_length_le (by omega)] at h2
    rw [h2]
    exact Ev.now _) (by
    intro i s hi ⟨h1, h2⟩ ih
    refine Ev.step (fun k => by rw [laws_toIntS.l0]) ?_
    refine Ev.pos (by omega) (Ev.pos (by omega) (Ev.pos (by omega) ?_))
    rw [wrap_succ hi (by omega), Int.toNat_natCast]
    refine ih _ ⟨by simpa using h1, ?_⟩
    have hs : i < s.length := by omega
    rw [take_rd hi, ← h2, List.take_succ_eq_append_getElem (by simpa using hs), List.take_set_of_le (Nat.le_refl _)]
    simp)
  refine Ev.pos (by omega) (Ev.pos (by omega) ?_)
  rw [Int.toNat_natCast]
  exact key 0 _ (by omega) ⟨by simp, rfl⟩
theorem eqIntS_ev (l m : List Int) (hl : l.length ≤ 1048576) (h : l = m) : Ev (fun k => laws_eqIntS.f k l m) true := by
  subst h
  have key := range (n := l.length) (fun (_ : Unit) i k => laws_eqIntS.l0 k l l i) (fun _ _ => true) (fun _ _ => True) (by
    intro s _
    refine Ev.step (fun k => by rw [laws_eqIntS.l0]) ?_
    exact Ev.neg (by omega) (Ev.now _)) (by
    intro i s hi _ ih
    refine Ev.step (fun k => by rw [laws_eqIntS.l0]) ?_
    refine Ev.pos (by omega) (Ev.pos (by omega) (Ev.pos (by omega) (Ev.pos rfl ?_)))
    rw [wrap_succ hi (by omega)]
    exact ih s trivial)
  exact Ev.pos rfl (key 0 () (by omega) trivial)
theorem l1In_eq (a b c : Int) : spec_l1In.f a b c = some (decide (b ≤ a ∧ a ≤ c)) := by
  unfold spec_l1In.f
  by_cases h : a ≥ b
  · rw [if_pos h]; simp [h]
  · rw [if_neg h]; simp [h]
theorem l1All_ev (l : List Int) (a b : Int) (hl : l.length ≤ 1048576) : Ev (fun k => spec_l1All.f k l a b) (l.all fun x => decide (a ≤ x ∧ x ≤ b)) := by
  have key := range (n := l.length) (fun (_ : Unit) i k => spec_l1All.l0 k a b l (l.length : Int) i) (fun i _ => (l.drop i).all fun x => decide (a ≤ x ∧ x ≤ b)) (fun _ _ => True) (by
    intro s _
    refine Ev.step (fun k => by rw [spec_l1All.l0]) ?_
    rw [List.drop_length]
    exact Ev.neg (by omega) (Ev.now _)) (by
    intro i s hi _ ih
    refine Ev.step (fun k => by rw [spec_l1All.l0]) ?_
    refine Ev.pos (by omega) (Ev.pos (by omega) (Ev.pos (by omega) ?_))
    rw [l1In_eq, drop_rd hi, List.all_cons]
    refine Ev.some_ ?_
    cases h : decide (a ≤ rd l (i : Int) ∧ rd l (i : Int) ≤ b) with
    | true =>
      refine Ev.pos rfl ?_
      rw [wrap_succ hi (by omega), Bool.true_and]
      exact ih () trivial
    | false => exact Ev.neg (by decide) (Ev.now _))
  exact key 0 () (by omega) trivial
theorem ldGood_ev (l : List Int) (hl : l.length ≤ 1048576) : Ev (fun k => spec_ldGood.f k l) (areJobs l) := by
  refine Ev.congr (fun k => by rw [spec_ldGood.f, l1In_eq]) ?_
  refine Ev.some_ ?_
  unfold areJobs
  by_cases h : (1 : Int) ≤ (l.length : Int) ∧ (l.length : Int) ≤ 9
  · refine Ev.pos (decide_eq_true h) ?_
    rw [decide_eq_true h, Bool.true_and]
    exact Ev.bind (l1All_ev l 1 1000 hl) (Ev.now _)
  · refine Ev.neg (by simpa using h) ?_
    rw [decide_eq_false h, Bool.false_and]
    exact Ev.now _
def asked (l : List Int) (m : Int) : Bool := areJobs l && decide (1 ≤ m ∧ m ≤ 4)
theorem asked_iff {l : List Int} {m : Int} : asked l m = true ↔ areJobs l = true ∧ 1 ≤ m ∧ m ≤ 4 := by
  unfold asked
  rw [Bool.and_eq_true, decide_eq_true_eq]
theorem ldAsked_ev (l : List Int) (m : Int) (hl : l.length ≤ 1048576) : Ev (fun k => spec_ldAsked.f k l m) (asked l m) := by
  refine Ev.bind (ldGood_ev l hl) ?_
  unfold asked
  cases areJobs l with
  | true => exact Ev.pos rfl (Ev.bind (Ev.const (l1In_eq m 1 4)) (Ev.now _))
  | false => exact Ev.neg (by decide) (Ev.now _)
def planOf (l : List Int) (m : Int) (p : List Int) : Bool := decide ((p.length : Int) = (l.length : Int)) && allIn p 0 (wrap64 (m - 1))
theorem ldPlan_ev (l : List Int) (m : Int) (p : List Int) (hp : p.length ≤ 1048576) : Ev (fun k => spec_ldPlan.f k l m p) (planOf l m p) := by
  unfold planOf
  by_cases h : (p.length : Int) = (l.length : Int)
  · rw [decide_eq_true h, Bool.true_and]
    exact Ev.pos h (Ev.bind (l1All_ev p 0 _ hp) (Ev.now _))
  · rw [decide_eq_false h, Bool.false_and]
    exact Ev.neg h (Ev.now _)
theorem ldBoth_ev (l : List Int) (m : Int) (p : List Int) (hl : l.length ≤ 1048576) (hp : p.length ≤ 1048576) : Ev (fun k => spec_ldBoth.f k l m p) (asked l m && planOf l m p) := by
  refine Ev.bind (ldAsked_ev l m hl) ?_
  cases asked l m with
  | true => exact Ev.pos rfl (Ev.bind (ldPlan_ev l m p hp) (Ev.now _))
  | false => exact Ev.neg (by decide) (Ev.now _)
theorem planned_of {l : List Int} {m : Int} {p : List Int} (h : (asked l m && planOf l m p) = true) : Planned l m p := by
  rw [Bool.and_eq_true] at h
  obtain ⟨h1, h2⟩ := h
  obtain ⟨h3, h4, h5⟩ := asked_iff.1 h1
  obtain ⟨h6, h7, h8⟩ := areJobs_len h3
  unfold planOf at h2
  rw [Bool.and_eq_true, decide_eq_true_eq, wrap_id (by omega) (by omega)] at h2
  exact ⟨by omega, h7, h6, h8, h4, h5, h2.2⟩
theorem ldLoads_ev {jobs plan : List Int} {m : Int} (h : Planned jobs m plan) : Ev (fun k => spec_ldLoads.f k jobs m plan) (loads jobs m plan) := by
  obtain ⟨h1, h2, h3, h4, h5, h6, h7⟩ := h
  have key := range (n := plan.length) (fun (s : List Int) i k => spec_ldLoads.l0 k jobs s plan (plan.length : Int) i) (fun i s => loadsF s (plan.drop i) (jobs.drop i)) (fun i s => s.length = m.toNat ∧ allIn s 0 (1000 * (i : Int)) = true) (by
    intro s _
    refine Ev.step (fun k => by rw [spec_ldLoads.l0]) ?_
    rw [List.drop_length]
    refine Ev.neg (by omega) ?_
    rw [List.drop_of_length_le (by omega)]
    exact Ev.now _) (by
    intro i s hi ⟨i1, i2⟩ ih
    have hp := allIn_rd h7 hi
    have hj := allIn_rd h4 (i := i) (by omega)
    have hs := allIn_at i2 (p := rd plan (i : Int)) (by omega) (by omega)
    refine Ev.step (fun k => by rw [spec_ldLoads.l0]) ?_
    refine Ev.pos (by omega) (Ev.pos (by omega) (Ev.pos (by omega) (Ev.pos (by omega) (Ev.pos (by omega) (Ev.pos (by omega) ?_)))))
    rw [wrap_succ hi (by omega), wrap_id (by omega) (by omega), drop_rd hi, drop_rd (l := jobs) (i := i) (by omega)]
    refine ih _ ⟨by simpa using i1, allIn_set (allIn_mono i2 (Int.le_refl _) (by omega)) (by omega) (by omega) _⟩)
  refine Ev.pos (by omega) (Ev.pos (by omega) ?_)
  exact key 0 _ (by omega) ⟨by simp, allIn_rep _ (by decide) (by decide)⟩
theorem within_eq (a b c : Int) : impl_within.f a b c = some (decide (b ≤ a ∧ a ≤ c)) := by
  unfold impl_within.f
  by_cases h : a ≥ b
  · rw [if_pos h]; simp [h]
  · rw [if_neg h]; simp [h]
theorem areIn_eq (l : List Int) (a b : Int) : impl_areIn.f l a b = some (l.all fun x => decide (a ≤ x ∧ x ≤ b)) := rfl
theorem areJobs_eq (l : List Int) : impl_AreJobs.f l = some (areJobs l) := by
  unfold impl_AreJobs.f areJobs
  rw [within_eq, Option.bind_some]
  by_cases h : (1 : Int) ≤ (l.length : Int) ∧ (l.length : Int) ≤ 9
  · rw [if_pos (decide_eq_true h), decide_eq_true h, Bool.true_and]
    rfl
  · rw [if_neg (by simpa using h), decide_eq_false h, Bool.false_and]
theorem areMachines_eq (l : List Int) (m : Int) : impl_areMachines.f l m = some (asked l m) := by
  unfold impl_areMachines.f asked
  rw [areJobs_eq, Option.bind_some]
  cases areJobs l with
  | true => rw [if_pos rfl, within_eq]; rfl
  | false => rfl
theorem isPlan_eq (l : List Int) (m : Int) (p : List Int) : impl_isPlan.f l m p = some (asked l m && planOf l m p) := by
  unfold impl_isPlan.f
  rw [areMachines_eq, Option.bind_some]
  cases h0 : asked l m with
  | true =>
    rw [if_pos rfl, Bool.true_and]
    unfold planOf
    by_cases h : (p.length : Int) = (l.length : Int)
    · rw [if_pos h, decide_eq_true h, Bool.true_and]; rfl
    · rw [if_neg h, decide_eq_false h, Bool.false_and]
  | false => rfl
theorem loadsOf_ev {jobs plan : List Int} {m : Int} (h : Planned jobs m plan) : Ev (fun k => impl_loadsOf.f k jobs m plan) (loads jobs m plan) := by
  obtain ⟨h1, h2, h3, h4, h5, h6, h7⟩ := h
  have key := range (n := plan.length) (fun (s : List Int) i k => impl_loadsOf.l0 k jobs s plan (plan.length : Int) i) (fun i s => loadsF s (plan.drop i) (jobs.drop i)) (fun i s => s.length = m.toNat ∧ allIn s 0 (1000 * (i : Int)) = true) (by
    intro s _
    refine Ev.step (fun k => by rw [impl_loadsOf.l0]) ?_
    rw [List.drop_length]
    refine Ev.neg (by omega) ?_
    rw [List.drop_of_length_le (by omega)]
    exact Ev.now _) (by
    intro i s hi ⟨i1, i2⟩ ih
    have hp := allIn_rd h7 hi
    have hj := allIn_rd h4 (i := i) (by omega)
    have hs := allIn_at i2 (p := rd plan (i : Int)) (by omega) (by omega)
    refine Ev.step (fun k => by rw [impl_loadsOf.l0]) ?_
    refine Ev.pos (by omega) (Ev.pos (by omega) (Ev.pos (by omega) (Ev.pos (by omega) (Ev.pos (by omega) (Ev.pos (by omega) ?_)))))
    rw [wrap_succ hi (by omega), wrap_id (by omega) (by omega), drop_rd hi, drop_rd (l := jobs) (i := i) (by omega)]
    refine ih _ ⟨by simpa using i1, allIn_set (allIn_mono i2 (Int.le_refl _) (by omega)) (by omega) (by omega) _⟩)
  refine Ev.pos (by omega) (Ev.pos (by omega) ?_)
  exact key 0 _ (by omega) ⟨by simp, allIn_rep _ (by decide) (by decide)⟩
theorem markIntS_ev (l : List Int) (a : Int) (hl : l.length ≤ 1048576) (ha : 0 ≤ a) (ha2 : a ≤ 1099511627776) : Ev (fun k => laws_markIntS.f k l a) (a + l.length, upFrom a l.length) := by
  have key := range (n := l.length) (fun (s : List Int × Int) i k => laws_markIntS.l0 k s.1 s.2 i) (fun _ _ => (a + l.length, upFrom a l.length)) (fun i s => s.1.length = l.length ∧ s.1.take i = upFrom a i ∧ s.2 = a + i) (by
    intro s ⟨h1, h2, h3⟩
    refine Ev.step (fun k => by rw [laws_markIntS.l0]) ?_
    refine Ev.neg (by omega) ?_
    rw [List.take_of_length_le (by omega)] at h2
    rw [h2, h3]
    exact Ev.now _) (by
    intro i s hi ⟨h1, h2, h3⟩ ih
    refine Ev.step (fun k => by rw [laws_markIntS.l0]) ?_
    refine Ev.pos (by omega) (Ev.pos (by omega) ?_)
    rw [wrap_succ hi (by omega), Int.toNat_natCast, wrap_id (by omega) (by omega)]
    refine ih (s.1.set i s.2, s.2 + 1) ⟨by simpa using h1, ?_, by simp only; omega⟩
    have hs : i < s.1.length := by omega
    simp only
    rw [upFrom_snoc, ← h2, List.take_succ_eq_append_getElem (by simpa using hs), List.take_set_of_le (Nat.le_refl _)]
    simp [h3])
  exact key 0 (l, a) (by omega) ⟨rfl, by simp [upFrom], by simp⟩
theorem heldIntS_ev (n : Nat) (a : Int) (hl : n ≤ 1048576) (ha : 0 ≤ a) (ha2 : a ≤ 1099511627776) : Ev (fun k => laws_heldIntS.f k (upFrom a n) a) (a + n) := by
  have hlen := upFrom_length a n
  have key := range (n := n) (fun (s : Int) i k => laws_heldIntS.l0 k (upFrom a n) s i) (fun _ _ => a + n) (fun i s => s = a + i) (by
    intro s hs
    refine Ev.step (fun k => by rw [laws_heldIntS.l0]) ?_
    rw [hs]
    exact Ev.neg (by omega) (Ev.now _)) (by
    intro i s hi hs ih
    refine Ev.step (fun k => by rw [laws_heldIntS.l0]) ?_
    refine Ev.pos (by omega) (Ev.pos (by omega) (Ev.pos ?_ ?_))
    · rw [rd_get (by omega), upFrom_get, hs]
    · rw [wrap_succ hi (by omega), wrap_id (by omega) (by omega)]
      exact ih _ (by omega))
  exact key 0 a (by omega) (by simp)
theorem both_LoadsOf (l : List Int) (m : Int) (p : List Int) (hl : l.length ≤ 1048576) (hp : p.length ≤ 1048576) : ∃ w : List Int × Bool, Ev (fun k => spec_LoadsOf.f k l m p) w ∧ Ev (fun k => impl_LoadsOf.f k l m p) w ∧ w.1.length ≤ 1048576 := by
  cases h : (asked l m && planOf l m p) with
  | false =>
    refine ⟨([], false), Ev.bind (ldBoth_ev l m p hl hp) ?_, Ev.bind (Ev.const (isPlan_eq l m p)) ?_, by simp⟩ <;> (rw [h]; exact Ev.neg (by decide) (Ev.now _))
  | true =>
    have hP := planned_of h
    refine ⟨(loads l m p, true), Ev.bind (ldBoth_ev l m p hl hp) ?_, Ev.bind (Ev.const (isPlan_eq l m p)) ?_, ?_⟩
    · rw [h]; exact Ev.pos rfl (Ev.bind (ldLoads_ev hP) (Ev.now _))
    · rw [h]; exact Ev.pos rfl (Ev.bind (loadsOf_ev hP) (Ev.now _))
    · have := loads_length l m p; have := hP.m4; simp only; omega
theorem FnExactLoadsOf : laws_FnExactLoadsOf.Pure := by
  intro l0 a1 l2 h0_ h1_ h2_ h3_ h4_ h5_ h6_
  refine Ev.rounds ?_
  refine Ev.congr (fun k => by rw [laws_FnExactLoadsOf.f]) ?_
  by_cases hll0 : (l0.length : Int) > 1048576
  · exact Ev.pos hll0 (Ev.now _)
  refine Ev.neg hll0 ?_
  by_cases hll2 : (l2.length : Int) > 1048576
  · exact Ev.pos hll2 (Ev.now _)
  refine Ev.neg hll2 ?_
  have hnl0 : l0.length ≤ 1048576 := by omega
  have hnl2 : l2.length ≤ 1048576 := by omega
  obtain ⟨w, hS, hI, hW⟩ := both_LoadsOf l0 a1 l2 hnl0 hnl2
  repeat first
    | (exact Ev.now _)
    | (refine Ev.bind (toIntS_ev l0 hnl0) ?_)
    | (refine Ev.bind (toIntS_ev l2 hnl2) ?_)
    | (refine Ev.bind hS ?_)
    | (refine Ev.bind hI ?_)
    | (refine Ev.bind (eqIntS_ev _ _ ?_ rfl) ?_; next => (first | assumption | exact hW | exact hW.1 | exact hW.2))
    | (refine Ev.bind (markIntS_ev _ 1 ?_ (by decide) (by decide)) ?_; next => (first | assumption | exact hW | exact hW.1 | exact hW.2))
    | (refine Ev.bind (markIntS_ev _ _ ?_ ?_ ?_) ?_; (next => (first | assumption | exact hW | exact hW.1 | exact hW.2)); (next => (first | omega | (dsimp only; omega))); (next => (first | omega | (dsimp only; omega))))
    | (refine Ev.bind (heldIntS_ev _ 1 ?_ (by decide) (by decide)) ?_; next => (first | assumption | exact hW | exact hW.1 | exact hW.2))
    | (refine Ev.pos ?_ ?_; next => (first | rfl | decide | omega | (dsimp only; omega) | (simp; done)))
    | (refine Ev.neg ?_ ?_; next => (first | decide | omega | (dsimp only; omega) | (simp; done)))
    | (refine Ev.step (fun k => by rw [laws_FnExactLoadsOf.j0]) ?_)
    | (refine Ev.step (fun k => by rw [laws_FnExactLoadsOf.j1]) ?_)
    | (refine Ev.step (fun k => by rw [laws_FnExactLoadsOf.j2]) ?_)

end Go.Proofs.Ytamfmfcibecckaa.Pure
