import Derived.Test.YtamfmfcibecckaaPFnExactMirrorRingx3
import Derived.Test.YtamfmfcibecckaaBase
set_option linter.unusedSimpArgs false
set_option linter.unusedVariables false
namespace Go.Proofs.Ytamfmfcibecckaa.Pure
open Go.RowKit Go.Proofs.Ytamfmfcibecckaa.PFnExactMirrorRing Go.Proofs.YtamfmfcibecckaaW.PrintWords Go.Proofs.YtamfmfcibecckaaW.PrintLast Go.Proofs.Ytamfmfcibecckaa.Base

theorem toIntS_ev (l : List Int) (hl : l.length ≤ 1048576) : Ev (fun k => laws_toIntS.f k l) l := by
  have key := range (n := l.length) (fun (s : List Int) i k => laws_toIntS.l0 k l s i) (fun _ _ => l) (fun i s => s.length = l.length ∧ s.take i = l.take i) (by
    intro s ⟨h1, h2⟩
    refine Ev.step (fun k => by rw [laws_toIntS.l0]) ?_
    refine Ev.neg (by omega) ?_
    rw [List.take_of_length_le (by omega), List.take_of_length_le (by omega)] at h2
    rw [h2]
    exact Ev.now _) (by
    intro i s hi ⟨h1, h2⟩ ih
    refine Ev.step (fun k => by rw [laws_toIntS.l0]) ?_
    refine Ev.pos (by omega) (Ev.pos (by omega) (Ev.pos (by omega) ?_))
    rw [wrap_succ hi (by omega), Int.toNat_natCast]
    refine ih _ ⟨by simpa using h1, ?_⟩
    have hs : i < s.length := by omega
    rw [take_rd hi, ← h2, List.take_succ_eq_append_getElem (by simpa using hs), List.take_set_of_le (Nat.le_refl _)]
    simp)
  refine Ev.pos (by omega) (Ev.pos (by omega) ?_)
  rw [Int.toNat_natCast]
  exact key 0 _ (by omega) ⟨by simp, rfl⟩
theorem eqIntS_ev (l m : List Int) (hl : l.length ≤ 1048576) (h : l = m) : Ev (fun k => laws_eqIntS.f k l m) true := by
  subst h
  have key := range (n := l.length) (fun (_ : Unit) i k => laws_eqIntS.l0 k l l i) (fun _ _ => true) (fun _ _ => True) (by
    intro s _
    refine Ev.step (fun k => by rw [laws_eqIntS.l0]) ?_
    exact Ev.neg (by omega) (Ev.now _)) (by
    intro i s hi _ ih
    refine Ev.step (fun k => by rw [laws_eqIntS.l0]) ?_
    refine Ev.pos (by omega) (Ev.pos (by omega) (Ev.pos (by omega) (Ev.pos rfl ?_)))
    rw [wrap_succ hi (by omega)]
    exact ih s trivial)
  exact Ev.pos rfl (key 0 () (by omega) trivial)
theorem markIntS_ev (l : List Int) (a : Int) (hl : l.length ≤ 1048576) (ha : 0 ≤ a) (ha2 : a ≤ 1099511627776) : Ev (fun k => laws_markIntS.f k l a) (a + l.length, upFrom a l.length) := by
  have key := range (n := l.length) (fun (s : List Int × Int) i k => laws_markIntS.l0 k s.1 s.2 i) (fun _ _ => (a + l.length, upFrom a l.length)) (fun i s => s.1.length = l.length ∧ s.1.take i = upFrom a i ∧ s.2 = a + i) (by
    intro s ⟨h1, h2, h3⟩
    refine Ev.step (fun k => by rw [laws_markIntS.l0]) ?_
    refine Ev.neg (by omega) ?_
    rw [List.take_of_length_le (by omega)] at h2
    rw [h2, h3]
    exact Ev.now _) (by
    intro i s hi ⟨h1, h2, h3⟩ ih
    refine Ev.step (fun k => by rw [laws_markIntS.l0]) ?_
    refine Ev.pos (by omega) (Ev.pos (by omega) ?_)
    rw [wrap_succ hi (by omega), Int.toNat_natCast, wrap_id (by omega) (by omega)]
    refine ih (s.1.set i s.2, s.2 + 1) ⟨by simpa using h1, ?_, by simp only; omega⟩
    have hs : i < s.1.length := by omega
    simp only
    rw [upFrom_snoc, ← h2, List.take_succ_eq_append_getElem (by simpa using hs), List.take_set_of_le (Nat.le_refl _)]
    simp [h3])
  exact key 0 (l, a) (by omega) ⟨rfl, by simp [upFrom], by simp⟩
theorem heldIntS_ev (n : Nat) (a : Int) (hl : n ≤ 1048576) (ha : 0 ≤ a) (ha2 : a ≤ 1099511627776) : Ev (fun k => laws_heldIntS.f k (upFrom a n) a) (a + n) := by
  have hlen := upFrom_length a n
  have key := range (n := n) (fun (s : Int) i k => laws_heldIntS.l0 k (upFrom a n) s i) (fun _ _ => a + n) (fun i s => s = a + i) (by
    intro s hs
    refine Ev.step (fun k => by rw [laws_heldIntS.l0]) ?_
    rw [hs]
    exact Ev.neg (by omega) (Ev.now _)) (by
    intro i s hi hs ih
    refine Ev.step (fun k => by rw [laws_heldIntS.l0]) ?_
    refine Ev.pos (by omega) (Ev.pos (by omega) (Ev.pos ?_ ?_))
    · rw [rd_get (by omega), upFrom_get, hs]
    · rw [wrap_succ hi (by omega), wrap_id (by omega) (by omega)]
      exact ih _ (by omega))
  exact key 0 a (by omega) (by simp)
theorem l1In_eq (a b c : Int) : spec_l1In.f a b c = some (decide (b ≤ a ∧ a ≤ c)) := by
  unfold spec_l1In.f
  by_cases h : a ≥ b
  · rw [if_pos h]; simp [h]
  · rw [if_neg h]; simp [h]
theorem l1All_ev (l : List Int) (a b : Int) (hl : l.length ≤ 1048576) : Ev (fun k => spec_l1All.f k l a b) (l.all fun x => decide (a ≤ x ∧ x ≤ b)) := by
  have key := range (n := l.length) (fun (_ : Unit) i k => spec_l1All.l0 k a b l (l.length : Int) i) (fun i _ => (l.drop i).all fun x => decide (a ≤ x ∧ x ≤ b)) (fun _ _ => True) (by
    intro s _
    refine Ev.step (fun k => by rw [spec_l1All.l0]) ?_
    rw [List.drop_length]
    exact Ev.neg (by omega) (Ev.now _)) (by
    intro i s hi _ ih
    refine Ev.step (fun k => by rw [spec_l1All.l0]) ?_
    refine Ev.pos (by omega) (Ev.pos (by omega) (Ev.pos (by omega) ?_))
    rw [l1In_eq, drop_rd hi, List.all_cons]
    refine Ev.some_ ?_
    cases h : decide (a ≤ rd l (i : Int) ∧ rd l (i : Int) ≤ b) with
    | true =>
      refine Ev.pos rfl ?_
      rw [wrap_succ hi (by omega), Bool.true_and]
      exact ih () trivial
    | false => exact Ev.neg (by decide) (Ev.now _))
  exact key 0 () (by omega) trivial
theorem riGood_ev (l : List Int) (hl : l.length ≤ 1048576) : Ev (fun k => spec_riGood.f k l) (isRing l) := by
  refine Ev.congr (fun k => by rw [spec_riGood.f, l1In_eq]) ?_
  refine Ev.some_ ?_
  unfold isRing
  by_cases h : (2 : Int) ≤ (l.length : Int) ∧ (l.length : Int) ≤ 10
  · refine Ev.pos (decide_eq_true h) ?_
    rw [decide_eq_true h, Bool.true_and]
    exact Ev.bind (l1All_ev l 0 1000 hl) (Ev.now _)
  · refine Ev.neg (by simpa using h) ?_
    rw [decide_eq_false h, Bool.false_and]
    exact Ev.now _
theorem cyMirror_ev (l : List Int) (hl : l.length ≤ 1048576) : Ev (fun k => spec_cyMirror.f k l) l.reverse := by
  have key : ∀ (i : Nat), i ≤ l.length → Ev (fun k => spec_cyMirror.l0 k l ((l.drop i).reverse) ((i : Int) - 1)) l.reverse := by
    intro i
    induction i with
    | zero =>
      intro _
      refine Ev.step (fun k => by rw [spec_cyMirror.l0]) ?_
      refine Ev.neg (by omega) ?_
      exact Ev.now _
    | succ i ih =>
      intro hi
      have hi' : i < l.length := by omega
      refine Ev.step (fun k => by rw [spec_cyMirror.l0]) ?_
      have e : ((i + 1 : Nat) : Int) - 1 = (i : Int) := by omega
      rw [e, wrap_id (by omega) (by omega)]
      refine Ev.pos (by omega) (Ev.pos (by omega) (Ev.pos (by omega) (Ev.pos (by rw [List.length_reverse, List.length_drop]; omega) ?_)))
      have := ih (by omega)
      rw [drop_rd hi', List.reverse_cons] at this
      exact this
  have := key l.length (Nat.le_refl _)
  rw [List.drop_length] at this
  unfold spec_cyMirror.f
  rw [wrap_id (by omega) (by omega)]
  exact this
theorem clone_eq (l : List Int) (hl : l.length ≤ 1048576) : slices_Clone_int_int.f l = some l := by
  unfold slices_Clone_int_int.f
  rw [if_pos (by omega)]
theorem within_eq (a b c : Int) : impl_within.f a b c = some (decide (b ≤ a ∧ a ≤ c)) := by
  unfold impl_within.f
  by_cases h : a ≥ b
  · rw [if_pos h]; simp [h]
  · rw [if_neg h]; simp [h]
theorem areIn_eq (l : List Int) (a b : Int) : impl_areIn.f l a b = some (l.all fun x => decide (a ≤ x ∧ x ≤ b)) := rfl
theorem isRing_eq (l : List Int) : impl_IsRing.f l = some (isRing l) := by
  unfold impl_IsRing.f isRing
  rw [within_eq, Option.bind_some]
  by_cases h : (2 : Int) ≤ (l.length : Int) ∧ (l.length : Int) ≤ 10
  · rw [if_pos (decide_eq_true h), decide_eq_true h, Bool.true_and]
    rfl
  · rw [if_neg (by simpa using h), decide_eq_false h, Bool.false_and]
theorem reverse_ev (l : List Int) (hl : l.length ≤ 1048576) : Ev (fun k => slices_Reverse_int_int.f k l) l.reverse := by
  have key := range (n := l.length / 2) (fun (s : List Int) i k => slices_Reverse_int_int.l0 k s i ((l.length : Int) - 1 - i)) (fun _ _ => l.reverse) (fun i s => s.length = l.length ∧ ∀ p : Nat, p < l.length → rd s (p : Int) = if p < i ∨ l.length - 1 - p < i then rd l ((l.length - 1 - p : Nat) : Int) else rd l (p : Int)) (by
    intro s ⟨h1, h2⟩
    refine Ev.step (fun k => by rw [slices_Reverse_int_int.l0]) ?_
    refine Ev.neg (by omega) ?_
    have : s = l.reverse := by
      refine ext_rd (by simpa using h1) (fun p hp => ?_)
      rw [rd_reverse (by omega), h2 p (by omega)]
      split
      · rfl
      · congr 1; omega
    rw [this]
    exact Ev.now _) (by
    intro i s hi ⟨h1, h2⟩ ih
    refine Ev.step (fun k => by rw [slices_Reverse_int_int.l0]) ?_
    refine Ev.pos (by omega) (Ev.pos (by omega) (Ev.pos (by omega) (Ev.pos (by omega) (Ev.pos (by omega) ?_))))
    have e : (l.length : Int) - 1 - (i : Int) = ((l.length - 1 - i : Nat) : Int) := by omega
    have e2 : ((l.length - 1 - i : Nat) : Int) - 1 = (l.length : Int) - 1 - ((i + 1 : Nat) : Int) := by omega
    rw [e, wrap_succ (n := l.length) (by omega) (by omega), wrap_id (x := ((l.length - 1 - i : Nat) : Int) - 1) (by omega) (by omega), e2, Int.toNat_natCast, Int.toNat_natCast]
    refine ih _ ⟨by simpa using h1, fun p hp => ?_⟩
    rw [rd_set (by omega) (by simp; omega), rd_set (by omega) (by omega)]
    by_cases c1 : p = l.length - 1 - i
    · rw [if_pos (by omega), if_pos (by omega), h2 i (by omega), if_neg (by omega)]
      congr 1; omega
    · rw [if_neg (by omega)]
      by_cases c2 : p = i
      · rw [if_pos (by omega), if_pos (by omega), h2 _ (by omega), if_neg (by omega)]
        congr 1; omega
      · rw [if_neg (by omega), h2 p hp]
        by_cases c3 : p < i ∨ l.length - 1 - p < i
        · rw [if_pos c3, if_pos (by omega)]
        · rw [if_neg c3, if_neg (by omega)])
  have := key 0 l (by omega) ⟨rfl, fun p hp => by rw [if_neg (by omega)]⟩
  unfold slices_Reverse_int_int.f
  rw [wrap_id (by omega) (by omega)]
  simpa using this
theorem both_MirrorRing (l : List Int) (hl : l.length ≤ 1048576) : ∃ w : List Int × Bool, Ev (fun k => spec_MirrorRing.f k l) w ∧ Ev (fun k => impl_MirrorRing.f k l) w ∧ w.1.length ≤ 1048576 := by
  cases h : isRing l with
  | false =>
    refine ⟨([], false), Ev.bind (riGood_ev l hl) ?_, Ev.bind (Ev.const (isRing_eq l)) ?_, by simp⟩ <;> (rw [h]; exact Ev.neg (by decide) (Ev.now _))
  | true =>
    refine ⟨(l.reverse, true), Ev.bind (riGood_ev l hl) ?_, Ev.bind (Ev.const (isRing_eq l)) ?_, by simpa using hl⟩
    · rw [h]; exact Ev.pos rfl (Ev.bind (cyMirror_ev l hl) (Ev.now _))
    · rw [h]; exact Ev.pos rfl (Ev.bind (Ev.const (clone_eq l hl)) (Ev.bind (reverse_ev l hl) (Ev.now _)))
theorem FnExactMirrorRing : laws_FnExactMirrorRing.Pure := by
  intro l0 h0_ h1_ h2_
  refine Ev.rounds ?_
  refine Ev.congr (fun k => by rw [laws_FnExactMirrorRing.f]) ?_
  by_cases hll0 : (l0.length : Int) > 1048576
  · exact Ev.pos hll0 (Ev.now _)
  refine Ev.neg hll0 ?_
  have hnl0 : l0.length ≤ 1048576 := by omega
  obtain ⟨w, hS, hI, hW⟩ := both_MirrorRing l0 hnl0
  repeat first
    | (exact Ev.now _)
    | (refine Ev.bind (toIntS_ev l0 hnl0) ?_)
    | (refine Ev.bind hS ?_)
    | (refine Ev.bind hI ?_)
    | (refine Ev.bind (eqIntS_ev _ _ ?_ rfl) ?_; next => (first | assumption | exact hW | exact hW.1 | exact hW.2))
    | (refine Ev.bind (markIntS_ev _ 1 ?_ (by decide) (by decide)) ?_; next => (first | assumption | exact hW | exact hW.1 | exact hW.2))
    | (refine Ev.bind (markIntS_ev _ _ ?_ ?_ ?_) ?_; next => (first | assumption | exact hW | exact hW.1 | exact hW.2); next => (first | omega | (dsimp only; omega)); next => (first | omega | (dsimp only; omega)))
    | (refine Ev.bind (heldIntS_ev _ 1 ?_ (by decide) (by decide)) ?_; next => (first | assumption | exact hW | exact hW.1 | exact hW.2))
    | (refine Ev.pos ?_ ?_; next => (first | rfl | decide | omega | (dsimp only; omega) | (simp; done)))
    | (refine Ev.neg ?_ ?_; next => (first | decide | omega | (dsimp only; omega) | (simp; done)))
    | (refine Ev.step (fun k => by rw [laws_FnExactMirrorRing.j0]) ?_)
    | (refine Ev.step (fun k => by rw [laws_FnExactMirrorRing.j1]) ?_)
    | (refine Ev.step (fun k => by rw [laws_FnExactMirrorRing.j2]) ?_)

end Go.Proofs.Ytamfmfcibecckaa.Pure
