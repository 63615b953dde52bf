import Derived.Test.YtamfmfcibecckaaPFnExactEndBoundx2
import Derived.Test.YtamfmfcibecckaaBase
set_option linter.unusedSimpArgs false
set_option linter.unusedVariables false
namespace Go.Proofs.Ytamfmfcibecckaa.Pure
open Go.RowKit Go.Proofs.Ytamfmfcibecckaa.PFnExactEndBound Go.Proofs.YtamfmfcibecckaaW.PrintWords Go.Proofs.YtamfmfcibecckaaW.PrintLast Go.Proofs.Ytamfmfcibecckaa.Base

theorem l1In_eq (a b c : Int) : spec_l1In.f a b c = some (decide (b ≤ a ∧ a ≤ c)) := by
  unfold spec_l1In.f
  by_cases h : a ≥ b
  · rw [if_pos h]; simp [h]
  · rw [if_neg h]; simp [h]
theorem l1All_ev (l : List Int) (a b : Int) (hl : l.length ≤ 1048576) : Ev (fun k => spec_l1All.f k l a b) (l.all fun x => decide (a ≤ x ∧ x ≤ b)) := by
  have key := range (n := l.length) (fun (_ : Unit) i k => spec_l1All.l0 k a b l (l.length : Int) i) (fun i _ => (l.drop i).all fun x => decide (a ≤ x ∧ x ≤ b)) (fun _ _ => True) (by
    intro s _
    refine Ev.step (fun k => by rw [spec_l1All.l0]) ?_
    rw [List.drop_length]
    exact Ev.neg (by omega) (Ev.now _)) (by
    intro i s hi _ ih
    refine Ev.step (fun k => by rw [spec_l1All.l0]) ?_
    refine Ev.pos (by omega) (Ev.pos (by omega) (Ev.pos (by omega) ?_))
    rw [l1In_eq, drop_rd hi, List.all_cons]
    refine Ev.some_ ?_
    cases h : decide (a ≤ rd l (i : Int) ∧ rd l (i : Int) ≤ b) with
    | true =>
      refine Ev.pos rfl ?_
      rw [wrap_succ hi (by omega), Bool.true_and]
      exact ih () trivial
    | false => exact Ev.neg (by decide) (Ev.now _))
  exact key 0 () (by omega) trivial
theorem ldGood_ev (l : List Int) (hl : l.length ≤ 1048576) : Ev (fun k => spec_ldGood.f k l) (areJobs l) := by
  refine Ev.congr (fun k => by rw [spec_ldGood.f, l1In_eq]) ?_
  refine Ev.some_ ?_
  unfold areJobs
  by_cases h : (1 : Int) ≤ (l.length : Int) ∧ (l.length : Int) ≤ 9
  · refine Ev.pos (decide_eq_true h) ?_
    rw [decide_eq_true h, Bool.true_and]
    exact Ev.bind (l1All_ev l 1 1000 hl) (Ev.now _)
  · refine Ev.neg (by simpa using h) ?_
    rw [decide_eq_false h, Bool.false_and]
    exact Ev.now _
def asked (l : List Int) (m : Int) : Bool := areJobs l && decide (1 ≤ m ∧ m ≤ 4)
theorem asked_iff {l : List Int} {m : Int} : asked l m = true ↔ areJobs l = true ∧ 1 ≤ m ∧ m ≤ 4 := by
  unfold asked
  rw [Bool.and_eq_true, decide_eq_true_eq]
theorem ldAsked_ev (l : List Int) (m : Int) (hl : l.length ≤ 1048576) : Ev (fun k => spec_ldAsked.f k l m) (asked l m) := by
  refine Ev.bind (ldGood_ev l hl) ?_
  unfold asked
  cases areJobs l with
  | true => exact Ev.pos rfl (Ev.bind (Ev.const (l1In_eq m 1 4)) (Ev.now _))
  | false => exact Ev.neg (by decide) (Ev.now _)
theorem hpSum_ev (l : List Int) (hl : l.length ≤ 1048576) (hb : allIn l (-1099511627776) 1099511627776 = true) : Ev (fun k => spec_hpSum.f k l) (lsum l) := by
  have key := range (n := l.length) (fun (s : Int) i k => spec_hpSum.l0 k s l (l.length : Int) i) (fun i s => lsumF s (l.drop i)) (fun i s => -1099511627776 * (i : Int) ≤ s ∧ s ≤ 1099511627776 * (i : Int)) (by
    intro s _
    refine Ev.step (fun k => by rw [spec_hpSum.l0]) ?_
    rw [List.drop_length]
    exact Ev.neg (by omega) (Ev.now _)) (by
    intro i s hi hs ih
    refine Ev.step (fun k => by rw [spec_hpSum.l0]) ?_
    refine Ev.pos (by omega) (Ev.pos (by omega) (Ev.pos (by omega) ?_))
    have := allIn_rd hb hi
    rw [wrap_succ hi (by omega), wrap_id (by omega) (by omega), drop_rd hi]
    exact ih _ (by omega))
  exact key 0 0 (by omega) (by omega)
theorem l1Most_eq (a b : Int) : spec_l1Most.f a b = some (max a b) := by
  unfold spec_l1Most.f
  split <;> congr 1 <;> omega
theorem specEndBound_ev (l : List Int) (m : Int) (hl : l.length ≤ 1048576) : Ev (fun k => spec_EndBound.f k l m) (if asked l m = true then (lmaxF ((lsum l + m - 1) / m) l, true) else (0, false)) := by
  refine Ev.bind (ldAsked_ev l m hl) ?_
  cases h : asked l m with
  | false => rw [if_neg (by decide)]; exact Ev.neg (by decide) (Ev.now _)
  | true =>
    rw [if_pos rfl]
    obtain ⟨h3, h4, h5⟩ := asked_iff.1 h
    obtain ⟨h6, h7, h8⟩ := areJobs_len h3
    have hs := lsum_le h8
    refine Ev.pos rfl (Ev.bind (hpSum_ev l hl (allIn_mono h8 (by decide) (by decide))) (Ev.neg (by omega) ?_))
    have hq : 0 ≤ (lsum l + m - 1) / m ∧ (lsum l + m - 1) / m ≤ 10000 := by
      refine ⟨Int.ediv_nonneg (by omega) (by omega), ?_⟩
      have := Int.ediv_le_self (a := lsum l + m - 1) m (by omega)
      omega
    rw [wrap_id (x := lsum l + m) (by omega) (by omega), wrap_id (x := lsum l + m - 1) (by omega) (by omega), Int.tdiv_eq_ediv_of_nonneg (by omega), wrap_id (by omega) (by omega)]
    have key := range (n := l.length) (fun (s : Int) i k => spec_EndBound.l0 k s l (l.length : Int) i) (fun i s => (lmaxF s (l.drop i), true)) (fun _ _ => True) (by
      intro s _
      refine Ev.step (fun k => by rw [spec_EndBound.l0]) ?_
      rw [List.drop_length]
      exact Ev.neg (by omega) (Ev.now _)) (by
      intro i s hi _ ih
      refine Ev.step (fun k => by rw [spec_EndBound.l0]) ?_
      refine Ev.pos (by omega) (Ev.pos (by omega) (Ev.pos (by omega) ?_))
      rw [wrap_succ hi (by omega), l1Most_eq, drop_rd hi]
      exact Ev.some_ (ih _ trivial))
    exact key 0 _ (by omega) trivial
theorem toIntS_ev (l : List Int) (hl : l.length ≤ 1048576) : Ev (fun k => laws_toIntS.f k l) l := by
  have key := range (n := l.length) (fun (s : List Int) i k => laws_toIntS.l0 k l s i) (fun _ _ => l) (fun i s => s.length = l.length ∧ s.take i = l.take i) (by
    intro s ⟨h1, h2⟩
    refine Ev.step (fun k => by rw [laws_toIntS.l0]) ?_
    refine Ev.neg (by omega) ?_
    rw [List.take_of_length_le (by omega), List.take_of_length_le (by omega)] at h2
    rw [h2]
    exact Ev.now _) (by
    intro i s hi ⟨h1, h2⟩ ih
    refine Ev.step (fun k => by rw [laws_toIntS.l0]) ?_
    refine Ev.pos (by omega) (Ev.pos (by omega) (Ev.pos (by omega) ?_))
    rw [wrap_succ hi (by omega), Int.toNat_natCast]
    refine ih _ ⟨by simpa using h1, ?_⟩
    have hs : i < s.length := by omega
    rw [take_rd hi, ← h2, List.take_succ_eq_append_getElem (by simpa using hs), List.take_set_of_le (Nat.le_refl _)]
    simp)
  refine Ev.pos (by omega) (Ev.pos (by omega) ?_)
  rw [Int.toNat_natCast]
  exact key 0 _ (by omega) ⟨by simp, rfl⟩
theorem within_eq (a b c : Int) : impl_within.f a b c = some (decide (b ≤ a ∧ a ≤ c)) := by
  unfold impl_within.f
  by_cases h : a ≥ b
  · rw [if_pos h]; simp [h]
  · rw [if_neg h]; simp [h]
theorem areIn_eq (l : List Int) (a b : Int) : impl_areIn.f l a b = some (l.all fun x => decide (a ≤ x ∧ x ≤ b)) := rfl
theorem areJobs_eq (l : List Int) : impl_AreJobs.f l = some (areJobs l) := by
  unfold impl_AreJobs.f areJobs
  rw [within_eq, Option.bind_some]
  by_cases h : (1 : Int) ≤ (l.length : Int) ∧ (l.length : Int) ≤ 9
  · rw [if_pos (decide_eq_true h), decide_eq_true h, Bool.true_and]
    rfl
  · rw [if_neg (by simpa using h), decide_eq_false h, Bool.false_and]
theorem areMachines_eq (l : List Int) (m : Int) : impl_areMachines.f l m = some (asked l m) := by
  unfold impl_areMachines.f asked
  rw [areJobs_eq, Option.bind_some]
  cases areJobs l with
  | true => rw [if_pos rfl, within_eq]; rfl
  | false => rfl
theorem max_ev (l : List Int) (h : l ≠ []) (hl : l.length ≤ 1048576) : Ev (fun k => slices_Max_int_int.f k l) (lmax l) := by
  have hp : 1 ≤ l.length := List.length_pos_iff.2 h
  have key := range (n := l.length) (fun (s : Int) i k => slices_Max_int_int.l0 k l s i) (fun i s => lmaxF s (l.drop i)) (fun _ _ => True) (by
    intro s _
    refine Ev.step (fun k => by rw [slices_Max_int_int.l0]) ?_
    rw [List.drop_length]
    exact Ev.neg (by omega) (Ev.now _)) (by
    intro i s hi _ ih
    refine Ev.step (fun k => by rw [slices_Max_int_int.l0]) ?_
    refine Ev.pos (by omega) (Ev.pos (by omega) ?_)
    rw [wrap_succ hi (by omega), mx_eq, drop_rd hi]
    exact ih _ trivial)
  refine Ev.neg (by omega) (Ev.pos (by omega) ?_)
  exact key 1 _ hp trivial
theorem isum_ev (l : List Int) (hl : l.length ≤ 1048576) (hb : allIn l (-1099511627776) 1099511627776 = true) : Ev (fun k => impl_sum.f k l) (lsum l) := by
  have key := range (n := l.length) (fun (s : Int) i k => impl_sum.l0 k s l (l.length : Int) i) (fun i s => lsumF s (l.drop i)) (fun i s => -1099511627776 * (i : Int) ≤ s ∧ s ≤ 1099511627776 * (i : Int)) (by
    intro s _
    refine Ev.step (fun k => by rw [impl_sum.l0]) ?_
    rw [List.drop_length]
    exact Ev.neg (by omega) (Ev.now _)) (by
    intro i s hi hs ih
    refine Ev.step (fun k => by rw [impl_sum.l0]) ?_
    refine Ev.pos (by omega) (Ev.pos (by omega) (Ev.pos (by omega) ?_))
    have := allIn_rd hb hi
    rw [wrap_succ hi (by omega), wrap_id (by omega) (by omega), drop_rd hi]
    exact ih _ (by omega))
  exact key 0 0 (by omega) (by omega)
theorem implEndBound_ev (l : List Int) (m : Int) (hl : l.length ≤ 1048576) : Ev (fun k => impl_EndBound.f k l m) (if asked l m = true then (lmaxF ((lsum l + m - 1) / m) l, true) else (0, false)) := by
  refine Ev.bind (Ev.const (areMachines_eq l m)) ?_
  cases h : asked l m with
  | false => rw [if_neg (by decide)]; exact Ev.neg (by decide) (Ev.now _)
  | true =>
    rw [if_pos rfl]
    obtain ⟨h3, h4, h5⟩ := asked_iff.1 h
    obtain ⟨h6, h7, h8⟩ := areJobs_len h3
    have hs := lsum_le h8
    have hne : l ≠ [] := by intro e; subst e; simp at h6
    refine Ev.pos rfl (Ev.bind (max_ev l hne hl) (Ev.bind (isum_ev l hl (allIn_mono h8 (by decide) (by decide))) (Ev.neg (by omega) ?_)))
    have hq : 0 ≤ (lsum l + m - 1) / m ∧ (lsum l + m - 1) / m ≤ 10000 := by
      refine ⟨Int.ediv_nonneg (by omega) (by omega), ?_⟩
      have := Int.ediv_le_self (a := lsum l + m - 1) m (by omega)
      omega
    rw [wrap_id (x := lsum l + m) (by omega) (by omega), wrap_id (x := lsum l + m - 1) (by omega) (by omega), Int.tdiv_eq_ediv_of_nonneg (by omega), wrap_id (by omega) (by omega), mx_eq]
    have e : lmaxF ((lsum l + m - 1) / m) l = max (lmax l) ((lsum l + m - 1) / m) := by
      have h0 : lmaxF 0 l = lmax l := lmaxF_zero hne (fun x hx => by have := allIn_iff.1 h8 x hx; omega)
      have := lmaxF_max l ((lsum l + m - 1) / m) 0
      rw [Int.max_eq_left hq.1, h0] at this
      rw [this, Int.max_comm]
    rw [e]
    exact Ev.now _
theorem eqIntS_ev (l m : List Int) (hl : l.length ≤ 1048576) (h : l = m) : Ev (fun k => laws_eqIntS.f k l m) true := by
  subst h
  have key := range (n := l.length) (fun (_ : Unit) i k => laws_eqIntS.l0 k l l i) (fun _ _ => true) (fun _ _ => True) (by
    intro s _
    refine Ev.step (fun k => by rw [laws_eqIntS.l0]) ?_
    exact Ev.neg (by omega) (Ev.now _)) (by
    intro i s hi _ ih
    refine Ev.step (fun k => by rw [laws_eqIntS.l0]) ?_
    refine Ev.pos (by omega) (Ev.pos (by omega) (Ev.pos (by omega) (Ev.pos rfl ?_)))
    rw [wrap_succ hi (by omega)]
    exact ih s trivial)
  exact Ev.pos rfl (key 0 () (by omega) trivial)
theorem both_EndBound (l : List Int) (m : Int) (hl : l.length ≤ 1048576) : ∃ w : Int × Bool, Ev (fun k => spec_EndBound.f k l m) w ∧ Ev (fun k => impl_EndBound.f k l m) w ∧ True := ⟨_, specEndBound_ev l m hl, implEndBound_ev l m hl, trivial⟩
theorem FnExactEndBound : laws_FnExactEndBound.Pure := by
  intro l0 a1 h0_ h1_ h2_ h3_
  refine Ev.rounds ?_
  refine Ev.congr (fun k => by rw [laws_FnExactEndBound.f]) ?_
  by_cases hll0 : (l0.length : Int) > 1048576
  · exact Ev.pos hll0 (Ev.now _)
  refine Ev.neg hll0 ?_
  have hnl0 : l0.length ≤ 1048576 := by omega
  obtain ⟨w, hS, hI, hW⟩ := both_EndBound l0 a1 hnl0
  repeat first
    | (exact Ev.now _)
    | (refine Ev.bind (toIntS_ev l0 hnl0) ?_)
    | (refine Ev.bind hS ?_)
    | (refine Ev.bind hI ?_)
    | (refine Ev.bind (eqIntS_ev _ _ ?_ rfl) ?_; next => (first | assumption | exact hW | exact hW.1 | exact hW.2))
    | (refine Ev.pos ?_ ?_; next => (first | rfl | decide | omega | (dsimp only; omega) | (simp; done)))
    | (refine Ev.neg ?_ ?_; next => (first | decide | omega | (dsimp only; omega) | (simp; done)))
    | (refine Ev.step (fun k => by rw [laws_FnExactEndBound.j0]) ?_)

end Go.Proofs.Ytamfmfcibecckaa.Pure
