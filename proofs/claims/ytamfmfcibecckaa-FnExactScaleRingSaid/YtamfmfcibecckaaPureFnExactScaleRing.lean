import Derived.Test.YtamfmfcibecckaaPFnExactScaleRingx3
import Derived.Test.YtamfmfcibecckaaBase
set_option linter.unusedSimpArgs false
set_option linter.unusedVariables false
namespace Go.Proofs.Ytamfmfcibecckaa.Pure
open Go.RowKit Go.Proofs.Ytamfmfcibecckaa.PFnExactScaleRing Go.Proofs.YtamfmfcibecckaaW.PrintWords Go.Proofs.YtamfmfcibecckaaW.PrintLast Go.Proofs.Ytamfmfcibecckaa.Base

theorem toIntS_ev (l : List Int) (hl : l.length ≤ 1048576) : Ev (fun k => laws_toIntS.f k l) l := by
  have key := range (n := l.length) (fun (s : List Int) i k => laws_toIntS.l0 k l s i) (fun _ _ => l) (fun i s => s.length = l.length ∧ s.take i = l.take i) (by
    intro s ⟨h1, h2⟩
    refine Ev.step (fun k => by rw [laws_toIntS.l0]) ?_
    refine Ev.neg (by omega) ?_
    rw [List.take_of_length_le (by omega), List.take_of_length_le (by omega)] at h2
    rw [h2]
    exact Ev.now _) (by
    intro i s hi ⟨h1, h2⟩ ih
    refine Ev.step (fun k => by rw [laws_toIntS.l0]) ?_
    refine Ev.pos (by omega) (Ev.pos (by omega) (Ev.pos (by omega) ?_))
    rw [wrap_succ hi (by omega), Int.toNat_natCast]
    refine ih _ ⟨by simpa using h1, ?_⟩
    have hs : i < s.length := by omega
    rw [take_rd hi, ← h2, List.take_succ_eq_append_getElem (by simpa using hs), List.take_set_of_le (Nat.le_refl _)]
    simp)
  refine Ev.pos (by omega) (Ev.pos (by omega) ?_)
  rw [Int.toNat_natCast]
  exact key 0 _ (by omega) ⟨by simp, rfl⟩
theorem eqIntS_ev (l m : List Int) (hl : l.length ≤ 1048576) (h : l = m) : Ev (fun k => laws_eqIntS.f k l m) true := by
  subst h
  have key := range (n := l.length) (fun (_ : Unit) i k => laws_eqIntS.l0 k l l i) (fun _ _ => true) (fun _ _ => True) (by
    intro s _
    refine Ev.step (fun k => by rw [laws_eqIntS.l0]) ?_
    exact Ev.neg (by omega) (Ev.now _)) (by
    intro i s hi _ ih
    refine Ev.step (fun k => by rw [laws_eqIntS.l0]) ?_
    refine Ev.pos (by omega) (Ev.pos (by omega) (Ev.pos (by omega) (Ev.pos rfl ?_)))
    rw [wrap_succ hi (by omega)]
    exact ih s trivial)
  exact Ev.pos rfl (key 0 () (by omega) trivial)
theorem markIntS_ev (l : List Int) (a : Int) (hl : l.length ≤ 1048576) (ha : 0 ≤ a) (ha2 : a ≤ 1099511627776) : Ev (fun k => laws_markIntS.f k l a) (a + l.length, upFrom a l.length) := by
  have key := range (n := l.length) (fun (s : List Int × Int) i k => laws_markIntS.l0 k s.1 s.2 i) (fun _ _ => (a + l.length, upFrom a l.length)) (fun i s => s.1.length = l.length ∧ s.1.take i = upFrom a i ∧ s.2 = a + i) (by
    intro s ⟨h1, h2, h3⟩
    refine Ev.step (fun k => by rw [laws_markIntS.l0]) ?_
    refine Ev.neg (by omega) ?_
    rw [List.take_of_length_le (by omega)] at h2
    rw [h2, h3]
    exact Ev.now _) (by
    intro i s hi ⟨h1, h2, h3⟩ ih
    refine Ev.step (fun k => by rw [laws_markIntS.l0]) ?_
    refine Ev.pos (by omega) (Ev.pos (by omega) ?_)
    rw [wrap_succ hi (by omega), Int.toNat_natCast, wrap_id (by omega) (by omega)]
    refine ih (s.1.set i s.2, s.2 + 1) ⟨by simpa using h1, ?_, by simp only; omega⟩
    have hs : i < s.1.length := by omega
    simp only
    rw [upFrom_snoc, ← h2, List.take_succ_eq_append_getElem (by simpa using hs), List.take_set_of_le (Nat.le_refl _)]
    simp [h3])
  exact key 0 (l, a) (by omega) ⟨rfl, by simp [upFrom], by simp⟩
theorem heldIntS_ev (n : Nat) (a : Int) (hl : n ≤ 1048576) (ha : 0 ≤ a) (ha2 : a ≤ 1099511627776) : Ev (fun k => laws_heldIntS.f k (upFrom a n) a) (a + n) := by
  have hlen := upFrom_length a n
  have key := range (n := n) (fun (s : Int) i k => laws_heldIntS.l0 k (upFrom a n) s i) (fun _ _ => a + n) (fun i s => s = a + i) (by
    intro s hs
    refine Ev.step (fun k => by rw [laws_heldIntS.l0]) ?_
    rw [hs]
    exact Ev.neg (by omega) (Ev.now _)) (by
    intro i s hi hs ih
    refine Ev.step (fun k => by rw [laws_heldIntS.l0]) ?_
    refine Ev.pos (by omega) (Ev.pos (by omega) (Ev.pos ?_ ?_))
    · rw [rd_get (by omega), upFrom_get, hs]
    · rw [wrap_succ hi (by omega), wrap_id (by omega) (by omega)]
      exact ih _ (by omega))
  exact key 0 a (by omega) (by simp)
theorem l1In_eq (a b c : Int) : spec_l1In.f a b c = some (decide (b ≤ a ∧ a ≤ c)) := by
  unfold spec_l1In.f
  by_cases h : a ≥ b
  · rw [if_pos h]; simp [h]
  · rw [if_neg h]; simp [h]
theorem l1All_ev (l : List Int) (a b : Int) (hl : l.length ≤ 1048576) : Ev (fun k => spec_l1All.f k l a b) (l.all fun x => decide (a ≤ x ∧ x ≤ b)) := by
  have key := range (n := l.length) (fun (_ : Unit) i k => spec_l1All.l0 k a b l (l.length : Int) i) (fun i _ => (l.drop i).all fun x => decide (a ≤ x ∧ x ≤ b)) (fun _ _ => True) (by
    intro s _
    refine Ev.step (fun k => by rw [spec_l1All.l0]) ?_
    rw [List.drop_length]
    exact Ev.neg (by omega) (Ev.now _)) (by
    intro i s hi _ ih
    refine Ev.step (fun k => by rw [spec_l1All.l0]) ?_
    refine Ev.pos (by omega) (Ev.pos (by omega) (Ev.pos (by omega) ?_))
    rw [l1In_eq, drop_rd hi, List.all_cons]
    refine Ev.some_ ?_
    cases h : decide (a ≤ rd l (i : Int) ∧ rd l (i : Int) ≤ b) with
    | true =>
      refine Ev.pos rfl ?_
      rw [wrap_succ hi (by omega), Bool.true_and]
      exact ih () trivial
    | false => exact Ev.neg (by decide) (Ev.now _))
  exact key 0 () (by omega) trivial
theorem riGood_ev (l : List Int) (hl : l.length ≤ 1048576) : Ev (fun k => spec_riGood.f k l) (isRing l) := by
  refine Ev.congr (fun k => by rw [spec_riGood.f, l1In_eq]) ?_
  refine Ev.some_ ?_
  unfold isRing
  by_cases h : (2 : Int) ≤ (l.length : Int) ∧ (l.length : Int) ≤ 10
  · refine Ev.pos (decide_eq_true h) ?_
    rw [decide_eq_true h, Bool.true_and]
    exact Ev.bind (l1All_ev l 0 1000 hl) (Ev.now _)
  · refine Ev.neg (by simpa using h) ?_
    rw [decide_eq_false h, Bool.false_and]
    exact Ev.now _
theorem within_eq (a b c : Int) : impl_within.f a b c = some (decide (b ≤ a ∧ a ≤ c)) := by
  unfold impl_within.f
  by_cases h : a ≥ b
  · rw [if_pos h]; simp [h]
  · rw [if_neg h]; simp [h]
theorem areIn_eq (l : List Int) (a b : Int) : impl_areIn.f l a b = some (l.all fun x => decide (a ≤ x ∧ x ≤ b)) := rfl
theorem isRing_eq (l : List Int) : impl_IsRing.f l = some (isRing l) := by
  unfold impl_IsRing.f isRing
  rw [within_eq, Option.bind_some]
  by_cases h : (2 : Int) ≤ (l.length : Int) ∧ (l.length : Int) ≤ 10
  · rw [if_pos (decide_eq_true h), decide_eq_true h, Bool.true_and]
    rfl
  · rw [if_neg (by simpa using h), decide_eq_false h, Bool.false_and]
theorem riMap_ev' (l : List Int) (t m : Int) (hl : l.length ≤ 1048576) :
    Ev (fun k => spec_riMap.f k l t m) (l.map fun x => wrap64 (wrap64 (x * t) + m), isRing (l.map fun x => wrap64 (wrap64 (x * t) + m))) := by
  have key := range (n := l.length) (fun (s : List Int) i k => spec_riMap.l0 k t m s l (l.length : Int) i) (fun _ _ => (l.map fun x => wrap64 (wrap64 (x * t) + m), isRing (l.map fun x => wrap64 (wrap64 (x * t) + m)))) (fun i s => s = (l.take i).map fun x => wrap64 (wrap64 (x * t) + m)) (by
    intro s hs
    refine Ev.step (fun k => by rw [spec_riMap.l0]) ?_
    refine Ev.neg (by omega) ?_
    rw [List.take_length] at hs
    subst hs
    exact Ev.bind (riGood_ev _ (by simpa using hl)) (Ev.now _)) (by
    intro i s hi hs ih
    refine Ev.step (fun k => by rw [spec_riMap.l0]) ?_
    have hsl : s.length = i := by rw [hs, List.length_map, List.length_take]; omega
    refine Ev.pos (by omega) (Ev.pos (by omega) (Ev.pos (by omega) (Ev.pos (by omega) ?_)))
    rw [wrap_succ hi (by omega)]
    refine ih _ ?_
    rw [take_rd hi, List.map_append, hs]
    rfl)
  exact key 0 [] (by omega) rfl
theorem changed_eq' (φ : Int → Int) (l : List Int) (a : Int) (hl : l.length ≤ 1048576) :
    ChangedRing.f φ l a = some (if isRing l = true ∧ (0 ≤ a ∧ a ≤ 1000) ∧ isRing (l.map φ) = true then (l.map φ, true) else ([], false)) := by
  unfold ChangedRing.f
  rw [isRing_eq, Option.bind_some]
  cases h1 : isRing l with
  | false => simp
  | true =>
    rw [if_pos rfl, within_eq, Option.bind_some]
    by_cases h2 : 0 ≤ a ∧ a ≤ 1000
    · rw [decide_eq_true h2, if_pos rfl, if_pos (by omega), isRing_eq, Option.bind_some]
      cases h3 : isRing (l.map φ) with
      | false => simp
      | true => simp [h2]
    · rw [decide_eq_false h2, if_neg (by decide), if_neg (fun h => h2 h.2.1)]
theorem mul_small {x a : Int} (h1 : 0 ≤ x) (h2 : x ≤ 1000) (h3 : 0 ≤ a) (h4 : a ≤ 1000) : 0 ≤ x * a ∧ x * a ≤ 1000000 := by
  refine ⟨Int.mul_nonneg h1 h3, ?_⟩
  have := Int.mul_le_mul h2 h4 h3 (by omega : (0 : Int) ≤ 1000)
  omega
theorem both_ScaleRing (l : List Int) (a : Int) (hl : l.length ≤ 1048576) : ∃ w : List Int × Bool, Ev (fun k => spec_ScaleRing.f k l a) w ∧ Ev (fun _ => impl_ScaleRing.f l a) w ∧ w.1.length ≤ 1048576 := by
  refine ⟨_, ?_, Ev.const (changed_eq' _ l a hl), by split <;> simp; omega⟩
  refine Ev.bind (riGood_ev l hl) ?_
  cases h1 : isRing l with
  | false =>
    rw [if_neg (by simp)]
    exact Ev.neg (by decide) (Ev.step (fun k => by rw [spec_ScaleRing.j0]) (Ev.pos rfl (Ev.now _)))
  | true =>
    refine Ev.pos rfl ?_
    rw [l1In_eq]
    refine Ev.some_ ?_
    refine Ev.step (fun k => by rw [spec_ScaleRing.j0]) ?_
    by_cases h2 : 0 ≤ a ∧ a ≤ 1000
    · rw [decide_eq_true h2]
      refine Ev.neg (by decide) (Ev.bind (riMap_ev' l a 0 hl) ?_)
      have hm : (l.map fun x => wrap64 (wrap64 (x * a) + 0)) = l.map fun x => wrap64 (x * a) := by
        refine List.map_congr_left (fun x hx => ?_)
        have h5 := allIn_iff.1 (isRing_len h1).2.2 x hx
        have := mul_small h5.1 h5.2 h2.1 h2.2
        rw [wrap_id (x := x * a) (by omega) (by omega), Int.add_zero, wrap_id (by omega) (by omega)]
      rw [hm]
      cases h3 : isRing (l.map fun x => wrap64 (x * a)) with
      | false => exact Ev.neg (by simp) (by rw [if_neg (by simp)]; exact Ev.now _)
      | true => exact Ev.pos rfl (by rw [if_pos ⟨rfl, h2, rfl⟩]; exact Ev.now _)
    · rw [decide_eq_false h2, if_neg (fun h => h2 h.2.1)]
      exact Ev.pos rfl (Ev.now _)
theorem FnExactScaleRing : laws_FnExactScaleRing.Pure := by
  intro l0 a1 h0_ h1_ h2_ h3_
  refine Ev.rounds ?_
  refine Ev.congr (fun k => by rw [laws_FnExactScaleRing.f]) ?_
  by_cases hll0 : (l0.length : Int) > 1048576
  · exact Ev.pos hll0 (Ev.now _)
  refine Ev.neg hll0 ?_
  have hnl0 : l0.length ≤ 1048576 := by omega
  obtain ⟨w, hS, hI, hW⟩ := both_ScaleRing l0 a1 hnl0
  repeat first
    | (exact Ev.now _)
    | (refine Ev.bind (toIntS_ev l0 hnl0) ?_)
    | (refine Ev.bind hS ?_)
    | (refine Ev.bind hI ?_)
    | (refine Ev.bind (eqIntS_ev _ _ ?_ rfl) ?_; next => (first | assumption | exact hW | exact hW.1 | exact hW.2))
    | (refine Ev.bind (markIntS_ev _ 1 ?_ (by decide) (by decide)) ?_; next => (first | assumption | exact hW | exact hW.1 | exact hW.2))
    | (refine Ev.bind (markIntS_ev _ _ ?_ ?_ ?_) ?_; next => (first | assumption | exact hW | exact hW.1 | exact hW.2); next => (first | omega | (dsimp only; omega)); next => (first | omega | (dsimp only; omega)))
    | (refine Ev.bind (heldIntS_ev _ 1 ?_ (by decide) (by decide)) ?_; next => (first | assumption | exact hW | exact hW.1 | exact hW.2))
    | (refine Ev.pos ?_ ?_; next => (first | rfl | decide | omega | (dsimp only; omega) | (simp; done)))
    | (refine Ev.neg ?_ ?_; next => (first | decide | omega | (dsimp only; omega) | (simp; done)))
    | (refine Ev.step (fun k => by rw [laws_FnExactScaleRing.j0]) ?_)
    | (refine Ev.step (fun k => by rw [laws_FnExactScaleRing.j1]) ?_)
    | (refine Ev.step (fun k => by rw [laws_FnExactScaleRing.j2]) ?_)

end Go.Proofs.Ytamfmfcibecckaa.Pure
