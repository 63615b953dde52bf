/- What is proved here: the pure statement of the law FnExactPlanText: for every input the law, as the print tells it, answers true. No condition. (The row that follows from it says it of the Go program.) -/
import Derived.Test.YteneeeepocefaaaDoorPFnExactPlanTextx2
import Derived.Test.YteneeeepocefaaaDoorBase
import Derived.Lib.ItoaLen
set_option linter.unusedSimpArgs false
set_option linter.unusedVariables false
namespace Go.Proofs.YteneeeepocefaaaDoor.Pure
open Go.RowKit Go.Proofs.YteneeeepocefaaaDoor.PFnExactPlanText Go.Proofs.YteneeeepocefaaaDoorW.PrintWords Go.Proofs.YteneeeepocefaaaDoorW.PrintLast Go.Proofs.YteneeeepocefaaaDoor.Base

theorem l1In_eq (a b c : Int) : spec_l1In.f a b c = some (decide (b ≤ a ∧ a ≤ c)) := by
  unfold spec_l1In.f
  by_cases h : a ≥ b
  · rw [if_pos h]; simp [h]
  · rw [if_neg h]; simp [h]
theorem l1All_ev (l : List Int) (a b : Int) (hl : l.length ≤ 1048576) : Ev (fun k => spec_l1All.f k l a b) (l.all fun x => decide (a ≤ x ∧ x ≤ b)) := by
  have key := range (n := l.length) (fun (_ : Unit) i k => spec_l1All.l0 k a b l (l.length : Int) i) (fun i _ => (l.drop i).all fun x => decide (a ≤ x ∧ x ≤ b)) (fun _ _ => True) (by
    intro s _
    refine Ev.step (fun k => by rw [spec_l1All.l0]) ?_
    rw [List.drop_length]
    exact Ev.neg (by omega) (Ev.now _)) (by
    intro i s hi _ ih
    refine Ev.step (fun k => by rw [spec_l1All.l0]) ?_
    refine Ev.pos (by omega) (Ev.pos (by omega) (Ev.pos (by omega) ?_))
    rw [l1In_eq, drop_rd hi, List.all_cons]
    refine Ev.some_ ?_
    cases h : decide (a ≤ rd l (i : Int) ∧ rd l (i : Int) ≤ b) with
    | true =>
      refine Ev.pos rfl ?_
      rw [wrap_succ hi (by omega), Bool.true_and]
      exact ih () trivial
    | false => exact Ev.neg (by decide) (Ev.now _))
  exact key 0 () (by omega) trivial
def planText (l : List Int) : Bool := decide ((1 : Int) ≤ (l.length : Int) ∧ (l.length : Int) ≤ 9) && allIn l 0 3
theorem planText_len {l : List Int} (h : planText l = true) : 1 ≤ l.length ∧ l.length ≤ 9 ∧ allIn l 0 3 = true := by
  unfold planText at h
  rw [Bool.and_eq_true] at h
  have := of_decide_eq_true h.1
  exact ⟨by omega, by omega, h.2⟩
theorem ldAny_ev (l : List Int) (hl : l.length ≤ 1048576) : Ev (fun k => spec_ldAny.f k l) (planText l) := by
  refine Ev.congr (fun k => by rw [spec_ldAny.f, l1In_eq]) ?_
  refine Ev.some_ ?_
  unfold planText
  by_cases h : (1 : Int) ≤ (l.length : Int) ∧ (l.length : Int) ≤ 9
  · refine Ev.pos (decide_eq_true h) ?_
    rw [decide_eq_true h, Bool.true_and]
    exact Ev.bind (l1All_ev l 0 3 hl) (Ev.now _)
  · refine Ev.neg (by simpa using h) ?_
    rw [decide_eq_false h, Bool.false_and]
    exact Ev.now _
theorem strOfNums_one {n : Nat} (h : n ≤ 9) : strOfNums [(wrap64 (48 + (n : Int))) % 256] = ⟨#[UInt8.ofNat (48 + n)]⟩ := by
  rw [wrap_id (by omega) (by omega), Int.emod_eq_of_lt (by omega) (by omega)]
  have : ((48 : Int) + (n : Int)).toNat = 48 + n := by omega
  simp [strOfNums, this]
theorem decDigits_step {u : Nat} (h : ¬ u < 10) : Lib.decDigits u = Lib.decDigits (u / 10) ++ [UInt8.ofNat (48 + u % 10)] := by
  rw [Lib.decDigits, dif_neg h]
theorem mk_append (a b : List UInt8) : (⟨a.toArray⟩ : ByteArray) ++ ⟨b.toArray⟩ = ⟨(a ++ b).toArray⟩ := by
  apply ByteArray.ext
  simp
theorem itoa_short (u : Nat) (h : u ≤ 1000000000000) : (Lib.decDigits u).length ≤ 21 := by
  have := Lib.itoa_length_le (u : Int) (by omega) (by omega)
  rwa [Lib.itoa_nonneg] at this
theorem l1Num_ev (u : Nat) : u ≤ 1000000000000 → Ev (fun k => spec_l1Num.f k (u : Int)) ⟨(Lib.itoa (u : Int)).toArray⟩ := by
  induction u using Nat.strongRecOn with
  | _ u ih =>
    intro hu
    rw [Lib.itoa_nonneg]
    refine Ev.step (fun k => by rw [spec_l1Num.f]) ?_
    by_cases h : u < 10
    · refine Ev.pos (by omega) ?_
      rw [strOfNums_one (by omega), Lib.decDigits_one h]
      exact Ev.now _
    · refine Ev.neg (by omega) ?_
      rw [Int.tdiv_eq_ediv_of_nonneg (by omega), Int.tmod_eq_emod_of_nonneg (by omega), show (u : Int) / 10 = ((u / 10 : Nat) : Int) from by omega, show (u : Int) % 10 = ((u % 10 : Nat) : Int) from by omega, wrap_id (x := ((u / 10 : Nat) : Int)) (by omega) (by omega)]
      refine Ev.bind (ih (u / 10) (by omega) (by omega)) (Ev.some_ ?_)
      have hl := itoa_short (u / 10) (by omega)
      rw [strOfNums_one (n := u % 10) (by omega), Lib.itoa_nonneg]
      refine Ev.pos ?_ ?_
      · show (Lib.decDigits (u / 10)).toArray.size + 1 ≤ _
        simp only [List.size_toArray]
        omega
      · rw [decDigits_step h, ← mk_append]
        exact Ev.now _
theorem flat_length (l : List (List UInt8)) (B : Nat) (h : ∀ x ∈ l, x.length ≤ B) : l.flatten.length ≤ B * l.length := by
  induction l with
  | nil => simp
  | cons x t ih =>
    have h1 := h x List.mem_cons_self
    have h2 := ih (fun y hy => h y (List.mem_cons_of_mem _ hy))
    rw [List.flatten_cons, List.length_append, List.length_cons, Nat.mul_add]
    omega
theorem ldText_ev (l : List Int) (hl : l.length ≤ 1000) (hb : allIn l 0 1000000000 = true) : Ev (fun k => spec_ldText.f k l) ⟨((l.map Lib.itoa).flatten).toArray⟩ := by
  have hx : ∀ i : Nat, i < l.length → Lib.itoa (rd l (i : Int)) = Lib.decDigits (rd l (i : Int)).toNat ∧ (Lib.itoa (rd l (i : Int))).length ≤ 21 := by
    intro i hi
    have := allIn_rd hb hi
    obtain ⟨u, hu⟩ : ∃ u : Nat, rd l (i : Int) = (u : Int) := ⟨(rd l (i : Int)).toNat, by omega⟩
    rw [hu, Lib.itoa_nonneg, Int.toNat_natCast]
    exact ⟨rfl, itoa_short u (by omega)⟩
  have key := range (n := l.length) (fun (s : List UInt8) i k => spec_ldText.l0 k ⟨s.toArray⟩ l (l.length : Int) i) (fun _ _ => (⟨((l.map Lib.itoa).flatten).toArray⟩ : ByteArray)) (fun i s => s = ((l.take i).map Lib.itoa).flatten ∧ s.length ≤ 21 * i) (by
    intro s ⟨hs, _⟩
    refine Ev.step (fun k => by rw [spec_ldText.l0]) ?_
    rw [hs, List.take_length]
    exact Ev.neg (by omega) (Ev.now _)) (by
    intro i s hi ⟨hs, hsl⟩ ih
    refine Ev.step (fun k => by rw [spec_ldText.l0]) ?_
    have h1 := allIn_rd hb hi
    obtain ⟨u, hu⟩ : ∃ u : Nat, rd l (i : Int) = (u : Int) := ⟨(rd l (i : Int)).toNat, by omega⟩
    have h2 := (hx i hi).2
    refine Ev.pos (by omega) (Ev.pos (by omega) (Ev.pos (by omega) ?_))
    rw [hu] at h2 ⊢
    refine Ev.bind (l1Num_ev u (by omega)) (Ev.pos ?_ ?_)
    · show s.toArray.size + (Lib.itoa (u : Int)).toArray.size ≤ _
      simp only [List.size_toArray]
      omega
    · rw [mk_append, wrap_succ hi (by omega)]
      refine ih _ ⟨?_, ?_⟩
      · rw [take_rd hi, List.map_append, List.flatten_append, hs, hu]
        simp
      · rw [List.length_append]
        omega)
  exact key 0 [] (by omega) ⟨rfl, by simp⟩
theorem toIntS_ev (l : List Int) (hl : l.length ≤ 1048576) : Ev (fun k => laws_toIntS.f k l) l := by
  have key := range (n := l.length) (fun (s : List Int) i k => laws_toIntS.l0 k l s i) (fun _ _ => l) (fun i s => s.length = l.length ∧ s.take i = l.take i) (by
    intro s ⟨h1, h2⟩
    refine Ev.step (fun k => by rw [laws_toIntS.l0]) ?_
    refine Ev.neg (by omega) ?_
    rw [List.take_of_length_le (by omega), List.take_of_length_le (by omega)] at h2
    rw [h2]
    exact Ev.now _) (by
    intro i s hi ⟨h1, h2⟩ ih
    refine Ev.step (fun k => by rw [laws_toIntS.l0]) ?_
    refine Ev.pos (by omega) (Ev.pos (by omega) (Ev.pos (by omega) ?_))
    rw [wrap_succ hi (by omega), Int.toNat_natCast]
    refine ih _ ⟨by simpa using h1, ?_⟩
    have hs : i < s.length := by omega
    rw [take_rd hi, ← h2, List.take_succ_eq_append_getElem (by simpa using hs), List.take_set_of_le (Nat.le_refl _)]
    simp)
  refine Ev.pos (by omega) (Ev.pos (by omega) ?_)
  rw [Int.toNat_natCast]
  exact key 0 _ (by omega) ⟨by simp, rfl⟩
theorem within_eq (a b c : Int) : impl_within.f a b c = some (decide (b ≤ a ∧ a ≤ c)) := by
  unfold impl_within.f
  by_cases h : a ≥ b
  · rw [if_pos h]; simp [h]
  · rw [if_neg h]; simp [h]
theorem areIn_eq (l : List Int) (a b : Int) : impl_areIn.f l a b = some (l.all fun x => decide (a ≤ x ∧ x ≤ b)) := rfl
theorem isPlanText_eq (l : List Int) : impl_isPlanText.f l = some (planText l) := by
  unfold impl_isPlanText.f planText
  rw [within_eq, Option.bind_some]
  by_cases h : (1 : Int) ≤ (l.length : Int) ∧ (l.length : Int) ≤ 9
  · rw [if_pos (decide_eq_true h), decide_eq_true h, Bool.true_and]
    rfl
  · rw [if_neg (by simpa using h), decide_eq_false h, Bool.false_and]
theorem join_length_le (xs : List (List UInt8)) (sep : List UInt8) (B : Nat) (h : ∀ x ∈ xs, x.length ≤ B) : (Lib.join xs sep).length ≤ (B + sep.length) * xs.length := by
  cases xs with
  | nil => simp [Lib.join]
  | cons x t =>
    rw [Lib.join_cons]
    have h1 := h x List.mem_cons_self
    have h2 : (Lib.joinTail sep t).length ≤ (B + sep.length) * t.length := by
      have : ∀ t : List (List UInt8), (∀ y ∈ t, y.length ≤ B) → (Lib.joinTail sep t).length ≤ (B + sep.length) * t.length := by
        intro t
        induction t with
        | nil => intro _; simp [Lib.joinTail]
        | cons y t ih =>
          intro hh
          have a1 := hh y List.mem_cons_self
          have a2 := ih (fun z hz => hh z (List.mem_cons_of_mem _ hz))
          unfold Lib.joinTail at a2 ⊢
          rw [List.map_cons, List.flatten_cons, List.length_append, List.length_append, List.length_cons, Nat.mul_add]
          omega
      exact this t (fun y hy => h y (List.mem_cons_of_mem _ hy))
    rw [List.length_append, List.length_cons, Nat.mul_add]
    omega
theorem joined_ev (l : List Int) (sep : ByteArray) (hl : l.length ≤ 1000) (hs : sep.size ≤ 10) (hb : allIn l (-9223372036854775808) 9223372036854775807 = true) : Ev (fun k => impl_joined.f k l sep) ⟨(Lib.join (l.map Lib.itoa) sep.data.toList).toArray⟩ := by
  have key := range (n := l.length) (fun (s : List ByteArray) i k => impl_joined.l0 k sep s l (l.length : Int) i) (fun _ _ => (⟨(Lib.join (l.map Lib.itoa) sep.data.toList).toArray⟩ : ByteArray)) (fun i s => s = (l.take i).map fun n => (⟨(Lib.itoa n).toArray⟩ : ByteArray)) (by
    intro s hs'
    refine Ev.step (fun k => by rw [impl_joined.l0]) ?_
    rw [List.take_length] at hs'
    refine Ev.neg (by omega) (Ev.bind (a := (⟨(Lib.join (l.map Lib.itoa) sep.data.toList).toArray⟩ : ByteArray)) (Ev.const ?_) (Ev.now _))
    have hm : s.map (·.data.toList) = l.map Lib.itoa := by
      rw [hs', List.map_map]
      exact List.map_congr_left (fun x _ => rfl)
    have hlen := join_length_le (l.map Lib.itoa) sep.data.toList 21 (fun x hx => by
      obtain ⟨n, hn, rfl⟩ := List.mem_map.1 hx
      have := allIn_iff.1 hb n hn
      exact Lib.itoa_length_le n this.1 this.2)
    rw [List.length_map] at hlen
    have hsz : sep.data.toList.length ≤ 10 := by simpa using hs
    have hmul : (21 + sep.data.toList.length) * l.length ≤ 31 * 1000 := Nat.mul_le_mul (by omega) hl
    unfold strings_Join.f
    rw [hm, if_pos (by rw [hs', List.length_map]; omega), if_pos (by omega)]) (by
    intro i s hi hs' ih
    refine Ev.step (fun k => by rw [impl_joined.l0]) ?_
    have h1 := allIn_rd hb hi
    have hsl : s.length = i := by rw [hs', List.length_map, List.length_take]; omega
    refine Ev.pos (by omega) (Ev.pos (by omega) (Ev.pos (by omega) (Ev.bind (a := (⟨(Lib.itoa (rd l (i : Int))).toArray⟩ : ByteArray)) (Ev.const ?_) (Ev.pos (by omega) ?_))))
    · unfold strconv_Itoa.f
      rw [if_pos h1.1, if_pos h1.2]
    · rw [wrap_succ hi (by omega)]
      refine ih _ ?_
      rw [take_rd hi, List.map_append, hs']
      rfl)
  exact key 0 [] (by omega) rfl
theorem eqIntS_ev (l m : List Int) (hl : l.length ≤ 1048576) (h : l = m) : Ev (fun k => laws_eqIntS.f k l m) true := by
  subst h
  have key := range (n := l.length) (fun (_ : Unit) i k => laws_eqIntS.l0 k l l i) (fun _ _ => true) (fun _ _ => True) (by
    intro s _
    refine Ev.step (fun k => by rw [laws_eqIntS.l0]) ?_
    exact Ev.neg (by omega) (Ev.now _)) (by
    intro i s hi _ ih
    refine Ev.step (fun k => by rw [laws_eqIntS.l0]) ?_
    refine Ev.pos (by omega) (Ev.pos (by omega) (Ev.pos (by omega) (Ev.pos rfl ?_)))
    rw [wrap_succ hi (by omega)]
    exact ih s trivial)
  exact Ev.pos rfl (key 0 () (by omega) trivial)
theorem join_empty (xs : List (List UInt8)) : Lib.join xs [] = xs.flatten := by
  cases xs with
  | nil => rfl
  | cons x t =>
    rw [Lib.join_cons, List.flatten_cons]
    congr 1
    unfold Lib.joinTail
    congr 1
    exact List.map_id'' (fun _ => rfl) t
theorem both_PlanText (l : List Int) (hl : l.length ≤ 1048576) : ∃ w : ByteArray × Bool, Ev (fun k => spec_PlanText.f k l) w ∧ Ev (fun k => impl_PlanText.f k l) w ∧ True := by
  cases h : planText l with
  | false =>
    refine ⟨(⟨#[]⟩, false), Ev.bind (ldAny_ev l hl) ?_, Ev.bind (Ev.const (isPlanText_eq l)) ?_, trivial⟩ <;> (rw [h]; exact Ev.neg (by decide) (Ev.now _))
  | true =>
    obtain ⟨h1, h2, h3⟩ := planText_len h
    refine ⟨(⟨((l.map Lib.itoa).flatten).toArray⟩, true), Ev.bind (ldAny_ev l hl) ?_, Ev.bind (Ev.const (isPlanText_eq l)) ?_, trivial⟩
    · rw [h]; exact Ev.pos rfl (Ev.bind (ldText_ev l (by omega) (allIn_mono h3 (by decide) (by decide))) (Ev.now _))
    · rw [h]
      have := joined_ev l ⟨#[]⟩ (by omega) (by decide) (allIn_mono h3 (by decide) (by decide))
      rw [show (⟨#[]⟩ : ByteArray).data.toList = [] from rfl, join_empty] at this
      exact Ev.pos rfl (Ev.bind this (Ev.now _))
theorem FnExactPlanText : laws_FnExactPlanText.Pure := by
  intro l0 h0_ h1_ h2_
  refine Ev.rounds ?_
  refine Ev.congr (fun k => by rw [laws_FnExactPlanText.f]) ?_
  by_cases hll0 : (l0.length : Int) > 1048576
  · exact Ev.pos hll0 (Ev.now _)
  refine Ev.neg hll0 ?_
  have hnl0 : l0.length ≤ 1048576 := by omega
  obtain ⟨w, hS, hI, hW⟩ := both_PlanText l0 hnl0
  repeat first
    | (exact Ev.now _)
    | (refine Ev.bind (toIntS_ev l0 hnl0) ?_)
    | (refine Ev.bind hS ?_)
    | (refine Ev.bind hI ?_)
    | (refine Ev.bind (eqIntS_ev _ _ ?_ rfl) ?_; next => (first | assumption | exact hW | exact hW.1 | exact hW.2))
    | (refine Ev.pos ?_ ?_; next => (first | rfl | decide | omega | (dsimp only; omega) | (simp; done)))
    | (refine Ev.neg ?_ ?_; next => (first | decide | omega | (dsimp only; omega) | (simp; done)))
    | (refine Ev.step (fun k => by rw [laws_FnExactPlanText.j0]) ?_)

end Go.Proofs.YteneeeepocefaaaDoor.Pure
