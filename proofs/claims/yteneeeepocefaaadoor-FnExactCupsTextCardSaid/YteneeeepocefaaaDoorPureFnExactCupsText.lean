/- What is proved here: the pure statement of the law FnExactCupsText: for every input the law, as the print tells it, answers true. No condition. (The row that follows from it says it of the Go program.) -/
import Derived.Test.YteneeeepocefaaaDoorPFnExactCupsTextx4
import Derived.Test.YteneeeepocefaaaDoorBase
import Derived.Lib.ItoaLen
set_option linter.unusedSimpArgs false
set_option linter.unusedVariables false
namespace Go.Proofs.YteneeeepocefaaaDoor.Pure
open Go.RowKit Go.Proofs.YteneeeepocefaaaDoor.PFnExactCupsText Go.Proofs.YteneeeepocefaaaDoorW.PrintWords Go.Proofs.YteneeeepocefaaaDoorW.PrintLast Go.Proofs.YteneeeepocefaaaDoor.Base

theorem eqIntS_ev (l m : List Int) (hl : l.length ≤ 1048576) (h : l = m) : Ev (fun k => laws_eqIntS.f k l m) true := by
  subst h
  have key := range (n := l.length) (fun (_ : Unit) i k => laws_eqIntS.l0 k l l i) (fun _ _ => true) (fun _ _ => True) (by
    intro s _
    refine Ev.step (fun k => by rw [laws_eqIntS.l0]) ?_
    exact Ev.neg (by omega) (Ev.now _)) (by
    intro i s hi _ ih
    refine Ev.step (fun k => by rw [laws_eqIntS.l0]) ?_
    refine Ev.pos (by omega) (Ev.pos (by omega) (Ev.pos (by omega) (Ev.pos rfl ?_)))
    rw [wrap_succ hi (by omega)]
    exact ih s trivial)
  exact Ev.pos rfl (key 0 () (by omega) trivial)
theorem eqCups_ev (l m : List Int) (u v : Int) (hl : l.length ≤ 1048576) (h : l = m) (hu : u = v) : Ev (fun k => laws_eqCups.f k l u m v) true := by
  refine Ev.congr (fun k => by rw [laws_eqCups.f]) ?_
  exact Ev.bind (eqIntS_ev l m hl h) (Ev.pos rfl (Ev.pos hu (Ev.now _)))
theorem szCups_small (l : List Int) (u : Int) (hl : l.length ≤ 1048576) : laws_szCups.f l u 1048576 = some (1048576 - (l.length : Int)) := by
  unfold laws_szCups.f laws_szIntS.f
  rw [wrap_id (by omega) (by omega), if_neg (by omega), Option.bind_some, if_neg (by omega)]
theorem szCups_big (l : List Int) (u : Int) (hl : ¬ l.length ≤ 1048576) (hm : l.length ≤ 9223372036854775807) : laws_szCups.f l u 1048576 = some (-1) := by
  unfold laws_szCups.f laws_szIntS.f
  rw [wrap_id (by omega) (by omega), if_pos (by omega), Option.bind_some, if_pos (by omega)]
theorem l1In_eq (a b c : Int) : spec_l1In.f a b c = some (decide (b ≤ a ∧ a ≤ c)) := by
  unfold spec_l1In.f
  by_cases h : a ≥ b
  · rw [if_pos h]; simp [h]
  · rw [if_neg h]; simp [h]
theorem l1All_ev (l : List Int) (a b : Int) (hl : l.length ≤ 1048576) : Ev (fun k => spec_l1All.f k l a b) (l.all fun x => decide (a ≤ x ∧ x ≤ b)) := by
  have key := range (n := l.length) (fun (_ : Unit) i k => spec_l1All.l0 k a b l (l.length : Int) i) (fun i _ => (l.drop i).all fun x => decide (a ≤ x ∧ x ≤ b)) (fun _ _ => True) (by
    intro s _
    refine Ev.step (fun k => by rw [spec_l1All.l0]) ?_
    rw [List.drop_length]
    exact Ev.neg (by omega) (Ev.now _)) (by
    intro i s hi _ ih
    refine Ev.step (fun k => by rw [spec_l1All.l0]) ?_
    refine Ev.pos (by omega) (Ev.pos (by omega) (Ev.pos (by omega) ?_))
    rw [l1In_eq, drop_rd hi, List.all_cons]
    refine Ev.some_ ?_
    cases h : decide (a ≤ rd l (i : Int) ∧ rd l (i : Int) ≤ b) with
    | true =>
      refine Ev.pos rfl ?_
      rw [wrap_succ hi (by omega), Bool.true_and]
      exact ih () trivial
    | false => exact Ev.neg (by decide) (Ev.now _))
  exact key 0 () (by omega) trivial
def pow2 (u : Int) : Bool := Go.bits .and .i64 u (wrap64 (u - 1)) == 0
def unitC (u : Int) : Bool := decide (1 ≤ u ∧ u ≤ 1048576) && pow2 u
theorem cuUnit_eq (u : Int) : spec_cuUnit.f u = some (unitC u) := by
  unfold spec_cuUnit.f unitC
  rw [l1In_eq, Option.bind_some]
  by_cases h : 1 ≤ u ∧ u ≤ 1048576
  · rw [if_pos (decide_eq_true h), decide_eq_true h, Bool.true_and]; rfl
  · rw [if_neg (by simpa using h), decide_eq_false h, Bool.false_and]
def oddB (n : Int) : Bool := Int.tmod n 2 == 1
/-- There are cups. -/
def goodC (l : List Int) (u : Int) : Bool := decide ((2 : Int) ≤ (l.length : Int) ∧ (l.length : Int) ≤ 6) && (unitC u && (allIn l 0 (1000 * u) && (decide (u = 1) || l.any oddB)))
theorem cuGood_l0 (l : List Int) (u : Int) (hl : l.length ≤ 1048576) : ∀ (i : Nat) (b : Bool), i ≤ l.length → Ev (fun k => spec_cuGood.l0 k b l (l.length : Int) (i : Int) l u) (decide (u = 1) || (b || (l.drop i).any oddB)) := by
  intro i b hi
  have key := range (n := l.length) (fun (b : Bool) i k => spec_cuGood.l0 k b l (l.length : Int) i l u) (fun i b => (decide (u = 1) || (b || (l.drop i).any oddB))) (fun _ _ => True) (by
    intro b _
    refine Ev.step (fun k => by rw [spec_cuGood.l0]) ?_
    rw [List.drop_length, List.any_nil, Bool.or_false]
    refine Ev.neg (by omega) ?_
    by_cases h : u = 1
    · rw [decide_eq_true h, Bool.true_or]; exact Ev.pos h (Ev.now _)
    · rw [decide_eq_false h, Bool.false_or]; exact Ev.neg h (Ev.now _)) (by
    intro i b hi _ ih
    refine Ev.step (fun k => by rw [spec_cuGood.l0]) ?_
    rw [drop_rd hi, List.any_cons, wrap_succ hi (by omega)]
    refine Ev.pos (by omega) (Ev.pos (by omega) (Ev.pos (by omega) ?_))
    cases b with
    | true => exact Ev.pos rfl (by have := ih true trivial; simpa using this)
    | false =>
      refine Ev.neg (by decide) ?_
      have := ih (oddB (rd l (i : Int))) trivial
      simpa [oddB] using this)
  exact key i b hi trivial
theorem cuGood_ev (l : List Int) (u : Int) (hl : l.length ≤ 1048576) : Ev (fun k => spec_cuGood.f k l u) (goodC l u) := by
  have hno : ∀ b, b = true → Ev (fun k => spec_cuGood.j0 k b l u) false := fun b hb => by
    refine Ev.step (fun k => by rw [spec_cuGood.j0]) ?_
    exact Ev.pos hb (Ev.now _)
  refine Ev.congr (fun k => by rw [spec_cuGood.f, l1In_eq, cuUnit_eq]) ?_
  refine Ev.some_ ?_
  unfold goodC
  by_cases h1 : (2 : Int) ≤ (l.length : Int) ∧ (l.length : Int) ≤ 6
  · rw [decide_eq_true h1, Bool.true_and]
    refine Ev.pos rfl (Ev.some_ ?_)
    cases h2 : unitC u with
    | false => rw [Bool.false_and]; exact Ev.neg (by decide) (hno true rfl)
    | true =>
      rw [Bool.true_and]
      have hu : 1 ≤ u ∧ u ≤ 1048576 := by
        unfold unitC at h2
        rw [Bool.and_eq_true] at h2
        exact of_decide_eq_true h2.1
      rw [wrap_id (by omega) (by omega)]
      refine Ev.pos rfl (Ev.bind (l1All_ev l 0 (1000 * u) hl) ?_)
      show Ev _ (allIn l 0 (1000 * u) && _)
      change Ev (fun k => spec_cuGood.j0 k (!(allIn l 0 (1000 * u))) l u) _
      cases h3 : allIn l 0 (1000 * u) with
      | false => rw [Bool.false_and]; exact hno _ rfl
      | true =>
        rw [Bool.true_and]
        refine Ev.step (fun k => by rw [spec_cuGood.j0]) ?_
        refine Ev.neg (by decide) ?_
        have := cuGood_l0 l u hl 0 false (by omega)
        simpa using this
  · rw [decide_eq_false h1, Bool.false_and]
    exact Ev.neg (by decide) (hno true rfl)
theorem goodC_len {l : List Int} {u : Int} (h : goodC l u = true) : 2 ≤ l.length ∧ l.length ≤ 6 ∧ unitC u = true ∧ 1 ≤ u ∧ u ≤ 1048576 ∧ allIn l 0 (1000 * u) = true ∧ (u = 1 ∨ l.any oddB = true) := by
  unfold goodC at h
  simp only [Bool.and_eq_true, Bool.or_eq_true, decide_eq_true_eq] at h
  obtain ⟨h1, h2, h3, h4⟩ := h
  have h5 := h2
  unfold unitC at h5
  simp only [Bool.and_eq_true, decide_eq_true_eq] at h5
  exact ⟨by omega, by omega, h2, h5.1.1, h5.1.2, h3, h4⟩
theorem strOfNums_one {n : Nat} (h : n ≤ 9) : strOfNums [(wrap64 (48 + (n : Int))) % 256] = ⟨#[UInt8.ofNat (48 + n)]⟩ := by
  rw [wrap_id (by omega) (by omega), Int.emod_eq_of_lt (by omega) (by omega)]
  have : ((48 : Int) + (n : Int)).toNat = 48 + n := by omega
  simp [strOfNums, this]
theorem decDigits_step {u : Nat} (h : ¬ u < 10) : Lib.decDigits u = Lib.decDigits (u / 10) ++ [UInt8.ofNat (48 + u % 10)] := by
  rw [Lib.decDigits, dif_neg h]
theorem mk_append (a b : List UInt8) : (⟨a.toArray⟩ : ByteArray) ++ ⟨b.toArray⟩ = ⟨(a ++ b).toArray⟩ := by
  apply ByteArray.ext
  simp
theorem itoa_short (u : Nat) (h : u ≤ 1000000000000) : (Lib.decDigits u).length ≤ 21 := by
  have := Lib.itoa_length_le (u : Int) (by omega) (by omega)
  rwa [Lib.itoa_nonneg] at this
theorem l1Num_ev (u : Nat) : u ≤ 1000000000000 → Ev (fun k => spec_l1Num.f k (u : Int)) ⟨(Lib.itoa (u : Int)).toArray⟩ := by
  induction u using Nat.strongRecOn with
  | _ u ih =>
    intro hu
    rw [Lib.itoa_nonneg]
    refine Ev.step (fun k => by rw [spec_l1Num.f]) ?_
    by_cases h : u < 10
    · refine Ev.pos (by omega) ?_
      rw [strOfNums_one (by omega), Lib.decDigits_one h]
      exact Ev.now _
    · refine Ev.neg (by omega) ?_
      rw [Int.tdiv_eq_ediv_of_nonneg (by omega), Int.tmod_eq_emod_of_nonneg (by omega), show (u : Int) / 10 = ((u / 10 : Nat) : Int) from by omega, show (u : Int) % 10 = ((u % 10 : Nat) : Int) from by omega, wrap_id (x := ((u / 10 : Nat) : Int)) (by omega) (by omega)]
      refine Ev.bind (ih (u / 10) (by omega) (by omega)) (Ev.some_ ?_)
      have hl := itoa_short (u / 10) (by omega)
      rw [strOfNums_one (n := u % 10) (by omega), Lib.itoa_nonneg]
      refine Ev.pos ?_ ?_
      · show (Lib.decDigits (u / 10)).toArray.size + 1 ≤ _
        simp only [List.size_toArray]
        omega
      · rw [decDigits_step h, ← mk_append]
        exact Ev.now _
theorem join_snoc (xs : List (List UInt8)) (y sep : List UInt8) (h : xs ≠ []) : Lib.join (xs ++ [y]) sep = Lib.join xs sep ++ sep ++ y := by
  cases xs with
  | nil => exact absurd rfl h
  | cons x t =>
    rw [List.cons_append, Lib.join_cons, Lib.join_cons]
    unfold Lib.joinTail
    rw [List.map_append, List.flatten_append]
    simp [List.append_assoc]
theorem join_length_le2 (xs : List (List UInt8)) (sep : List UInt8) (B : Nat) (h : ∀ x ∈ xs, x.length ≤ B) : (Lib.join xs sep).length ≤ (B + sep.length) * xs.length := by
  cases xs with
  | nil => simp [Lib.join]
  | cons x t =>
    rw [Lib.join_cons]
    have h1 := h x List.mem_cons_self
    have h2 : (Lib.joinTail sep t).length ≤ (B + sep.length) * t.length := by
      have : ∀ t : List (List UInt8), (∀ y ∈ t, y.length ≤ B) → (Lib.joinTail sep t).length ≤ (B + sep.length) * t.length := by
        intro t
        induction t with
        | nil => intro _; simp [Lib.joinTail]
        | cons y t ih =>
          intro hh
          have a1 := hh y List.mem_cons_self
          have a2 := ih (fun z hz => hh z (List.mem_cons_of_mem _ hz))
          unfold Lib.joinTail at a2 ⊢
          rw [List.map_cons, List.flatten_cons, List.length_append, List.length_append, List.length_cons, Nat.mul_add]
          omega
      exact this t (fun y hy => h y (List.mem_cons_of_mem _ hy))
    rw [List.length_append, List.length_cons, Nat.mul_add]
    omega
theorem hpText_ev (l : List Int) (hl : l.length ≤ 1000) (hb : allIn l 0 1099511627776 = true) (hc : ∀ i : Nat, i < l.length → rd l (i : Int) ≤ 1000000000000) : Ev (fun k => spec_hpText.f k l) ⟨(Lib.join (l.map Lib.itoa) [45]).toArray⟩ := by
  have key := range (n := l.length) (fun (s : List UInt8) i k => spec_hpText.l0 k ⟨s.toArray⟩ l (l.length : Int) i) (fun _ _ => (⟨(Lib.join (l.map Lib.itoa) [45]).toArray⟩ : ByteArray)) (fun i s => s = Lib.join ((l.take i).map Lib.itoa) [45] ∧ s.length ≤ 22 * i) (by
    intro s ⟨hs, _⟩
    refine Ev.step (fun k => by rw [spec_hpText.l0]) ?_
    rw [hs, List.take_length]
    exact Ev.neg (by omega) (Ev.now _)) (by
    intro i s hi ⟨hs, hsl⟩ ih
    refine Ev.step (fun k => by rw [spec_hpText.l0]) ?_
    have h1 := allIn_rd hb hi
    obtain ⟨u, hu⟩ : ∃ u : Nat, rd l (i : Int) = (u : Int) := ⟨(rd l (i : Int)).toNat, by omega⟩
    have h2 := hc i hi
    have h3 : (Lib.itoa (u : Int)).length ≤ 21 := by rw [Lib.itoa_nonneg]; exact itoa_short u (by omega)
    rw [wrap_succ hi (by omega)]
    refine Ev.pos (by omega) (Ev.pos (by omega) (Ev.pos (by omega) ?_))
    rw [hu] at h2 ⊢
    have hone : (⟨s.toArray⟩ : ByteArray) ++ ⟨#[45]⟩ = ⟨(s ++ [45]).toArray⟩ := mk_append s [45]
    by_cases h0 : i = 0
    · subst h0
      have hs0 : s = [] := by rw [hs]; rfl
      refine Ev.neg (by omega) (Ev.bind (l1Num_ev u (by omega)) (Ev.pos ?_ ?_))
      · show s.toArray.size + (Lib.itoa (u : Int)).toArray.size ≤ _
        simp only [List.size_toArray]
        omega
      · rw [mk_append]
        refine ih _ ⟨?_, by rw [List.length_append]; omega⟩
        rw [take_rd hi, hu, hs0, List.take_zero]
        simp [Lib.join_cons, Lib.joinTail]
    · refine Ev.pos (by omega) (Ev.pos ?_ (Ev.bind (l1Num_ev u (by omega)) (Ev.pos ?_ ?_)))
      · show s.toArray.size + 1 ≤ _
        simp only [List.size_toArray]
        omega
      · rw [hone]
        show (s ++ [45]).toArray.size + (Lib.itoa (u : Int)).toArray.size ≤ _
        simp only [List.size_toArray, List.length_append, List.length_singleton]
        omega
      · rw [hone, mk_append]
        refine ih _ ⟨?_, by rw [List.length_append, List.length_append, List.length_singleton]; omega⟩
        rw [take_rd hi, hu, List.map_append, List.map_cons, List.map_nil, join_snoc _ _ _ (by
          intro e
          have e2 := congrArg List.length e
          rw [List.length_map, List.length_take, List.length_nil] at e2
          omega), hs])
  exact key 0 [] (by omega) ⟨rfl, by simp⟩
/-- The text of cups. -/
def textC (l : List Int) (u : Int) : ByteArray := ⟨(Lib.join (l.map Lib.itoa) [45] ++ [47] ++ Lib.itoa u).toArray⟩
theorem goodC_text {l : List Int} {u : Int} (h : goodC l u = true) : l.length ≤ 1000 ∧ allIn l 0 1099511627776 = true ∧ (∀ i : Nat, i < l.length → rd l (i : Int) ≤ 1000000000000) ∧ (Lib.join (l.map Lib.itoa) [45]).length ≤ 132 ∧ (Lib.itoa u).length ≤ 21 := by
  obtain ⟨h1, h2, _, h3, h4, h5, _⟩ := goodC_len h
  have h6 : allIn l 0 1099511627776 = true := allIn_mono h5 (by omega) (by omega)
  refine ⟨by omega, h6, fun i hi => by have := allIn_rd h5 hi; omega, ?_, ?_⟩
  · have := join_length_le2 (l.map Lib.itoa) [45] 21 (fun x hx => by
      obtain ⟨n, hn, rfl⟩ := List.mem_map.1 hx
      have := allIn_iff.1 h6 n hn
      exact Lib.itoa_length_le n (by omega) (by omega))
    rw [List.length_map, List.length_singleton] at this
    have h7 : (21 + 1) * l.length ≤ (21 + 1) * 6 := Nat.mul_le_mul_left _ h2
    omega
  · exact Lib.itoa_length_le u (by omega) (by omega)
theorem cuText_ev {l : List Int} {u : Int} (h : goodC l u = true) : Ev (fun k => spec_cuText.f k l u) (textC l u) := by
  obtain ⟨h1, h2, h3, h4, h5⟩ := goodC_text h
  obtain ⟨_, _, _, h6, h7, _⟩ := goodC_len h
  obtain ⟨n, rfl⟩ := Int.eq_ofNat_of_zero_le (show 0 ≤ u by omega)
  have hone : ∀ s : List UInt8, (⟨s.toArray⟩ : ByteArray) ++ ⟨#[47]⟩ = ⟨(s ++ [47]).toArray⟩ := fun s => mk_append s [47]
  refine Ev.congr (fun k => by rw [spec_cuText.f]) ?_
  refine Ev.bind (hpText_ev l h1 h2 h3) (Ev.pos ?_ (Ev.bind (l1Num_ev n (by omega)) (Ev.pos ?_ ?_)))
  · show (Lib.join (l.map Lib.itoa) [45]).toArray.size + 1 ≤ _
    simp only [List.size_toArray]
    omega
  · rw [hone]
    show (Lib.join (l.map Lib.itoa) [45] ++ [47]).toArray.size + (Lib.itoa (n : Int)).toArray.size ≤ _
    simp only [List.size_toArray, List.length_append, List.length_singleton]
    omega
  · rw [hone, mk_append]
    exact Ev.now _
theorem toIntS_ev (l : List Int) (hl : l.length ≤ 1048576) : Ev (fun k => laws_toIntS.f k l) l := by
  have key := range (n := l.length) (fun (s : List Int) i k => laws_toIntS.l0 k l s i) (fun _ _ => l) (fun i s => s.length = l.length ∧ s.take i = l.take i) (by
    intro s ⟨h1, h2⟩
    refine Ev.step (fun k => by rw [laws_toIntS.l0]) ?_
    refine Ev.neg (by omega) ?_
    rw [List.take_of_length_le (by omega), List.take_of_length_le (by omega)] at h2
    rw [h2]
    exact Ev.now _) (by
    intro i s hi ⟨h1, h2⟩ ih
    refine Ev.step (fun k => by rw [laws_toIntS.l0]) ?_
    refine Ev.pos (by omega) (Ev.pos (by omega) (Ev.pos (by omega) ?_))
    rw [wrap_succ hi (by omega), Int.toNat_natCast]
    refine ih _ ⟨by simpa using h1, ?_⟩
    have hs : i < s.length := by omega
    rw [take_rd hi, ← h2, List.take_succ_eq_append_getElem (by simpa using hs), List.take_set_of_le (Nat.le_refl _)]
    simp)
  refine Ev.pos (by omega) (Ev.pos (by omega) ?_)
  rw [Int.toNat_natCast]
  exact key 0 _ (by omega) ⟨by simp, rfl⟩
theorem toCups_ev (l : List Int) (u : Int) (hl : l.length ≤ 1048576) : Ev (fun k => laws_toCups.f k l u) (l, u) := by
  refine Ev.congr (fun k => by rw [laws_toCups.f]) ?_
  exact Ev.bind (toIntS_ev l hl) (Ev.now _)
theorem within_eq (a b c : Int) : impl_within.f a b c = some (decide (b ≤ a ∧ a ≤ c)) := by
  unfold impl_within.f
  by_cases h : a ≥ b
  · rw [if_pos h]; simp [h]
  · rw [if_neg h]; simp [h]
theorem areIn_eq (l : List Int) (a b : Int) : impl_areIn.f l a b = some (l.all fun x => decide (a ≤ x ∧ x ≤ b)) := rfl
theorem areCups_ev (l : List Int) (u : Int) (hl : l.length ≤ 1048576) : Ev (fun k => impl_AreCups.f k l u) (goodC l u) := by
  have hno : ∀ b, b = true → Ev (fun k => impl_AreCups.j0 k b l u) false := fun b hb => by
    refine Ev.step (fun k => by rw [impl_AreCups.j0]) ?_
    exact Ev.pos hb (Ev.now _)
  refine Ev.congr (fun k => by rw [impl_AreCups.f, within_eq, within_eq]) ?_
  refine Ev.some_ ?_
  unfold goodC unitC
  by_cases h1 : (2 : Int) ≤ (l.length : Int) ∧ (l.length : Int) ≤ 6
  · rw [decide_eq_true h1, Bool.true_and]
    refine Ev.pos rfl (Ev.some_ ?_)
    by_cases h2 : 1 ≤ u ∧ u ≤ 1048576
    · rw [decide_eq_true h2, Bool.true_and]
      refine Ev.pos rfl ?_
      rw [show (Go.bits .and .i64 u (wrap64 (u - 1)) != 0) = !(pow2 u) from rfl]
      cases h3 : pow2 u with
      | false => rw [Bool.false_and]; exact hno _ rfl
      | true =>
        rw [Bool.true_and]
        refine Ev.step (fun k => by rw [impl_AreCups.j0]) ?_
        refine Ev.neg (by decide) ?_
        rw [wrap_id (by omega) (by omega), areIn_eq, show slices_ContainsFunc_int_int.f l 61 = some (l.any oddB) from if_pos ⟨by decide, .inl rfl⟩]
        refine Ev.some_ (Ev.some_ ?_)
        change Ev (fun _ => if allIn l 0 (1000 * u) = true then _ else _) _
        cases h4 : allIn l 0 (1000 * u) with
        | false => rw [Bool.false_and]; exact Ev.neg (by decide) (Ev.now _)
        | true =>
          rw [Bool.true_and]
          refine Ev.pos rfl ?_
          by_cases h5 : u = 1
          · rw [decide_eq_true h5, Bool.true_or]; exact Ev.pos h5 (Ev.now _)
          · rw [decide_eq_false h5, Bool.false_or]; exact Ev.neg h5 (Ev.now _)
    · rw [decide_eq_false h2, Bool.false_and, Bool.false_and]
      exact Ev.neg (by decide) (hno true rfl)
  · rw [decide_eq_false h1, Bool.false_and]
    exact Ev.neg (by decide) (hno true rfl)
theorem join_length_le (xs : List (List UInt8)) (sep : List UInt8) (B : Nat) (h : ∀ x ∈ xs, x.length ≤ B) : (Lib.join xs sep).length ≤ (B + sep.length) * xs.length := by
  cases xs with
  | nil => simp [Lib.join]
  | cons x t =>
    rw [Lib.join_cons]
    have h1 := h x List.mem_cons_self
    have h2 : (Lib.joinTail sep t).length ≤ (B + sep.length) * t.length := by
      have : ∀ t : List (List UInt8), (∀ y ∈ t, y.length ≤ B) → (Lib.joinTail sep t).length ≤ (B + sep.length) * t.length := by
        intro t
        induction t with
        | nil => intro _; simp [Lib.joinTail]
        | cons y t ih =>
          intro hh
          have a1 := hh y List.mem_cons_self
          have a2 := ih (fun z hz => hh z (List.mem_cons_of_mem _ hz))
          unfold Lib.joinTail at a2 ⊢
          rw [List.map_cons, List.flatten_cons, List.length_append, List.length_append, List.length_cons, Nat.mul_add]
          omega
      exact this t (fun y hy => h y (List.mem_cons_of_mem _ hy))
    rw [List.length_append, List.length_cons, Nat.mul_add]
    omega
theorem joined_ev (l : List Int) (sep : ByteArray) (hl : l.length ≤ 1000) (hs : sep.size ≤ 10) (hb : allIn l (-9223372036854775808) 9223372036854775807 = true) : Ev (fun k => impl_joined.f k l sep) ⟨(Lib.join (l.map Lib.itoa) sep.data.toList).toArray⟩ := by
  have key := range (n := l.length) (fun (s : List ByteArray) i k => impl_joined.l0 k sep s l (l.length : Int) i) (fun _ _ => (⟨(Lib.join (l.map Lib.itoa) sep.data.toList).toArray⟩ : ByteArray)) (fun i s => s = (l.take i).map fun n => (⟨(Lib.itoa n).toArray⟩ : ByteArray)) (by
    intro s hs'
    refine Ev.step (fun k => by rw [impl_joined.l0]) ?_
    rw [List.take_length] at hs'
    refine Ev.neg (by omega) (Ev.bind (a := (⟨(Lib.join (l.map Lib.itoa) sep.data.toList).toArray⟩ : ByteArray)) (Ev.const ?_) (Ev.now _))
    have hm : s.map (·.data.toList) = l.map Lib.itoa := by
      rw [hs', List.map_map]
      exact List.map_congr_left (fun x _ => rfl)
    have hlen := join_length_le (l.map Lib.itoa) sep.data.toList 21 (fun x hx => by
      obtain ⟨n, hn, rfl⟩ := List.mem_map.1 hx
      have := allIn_iff.1 hb n hn
      exact Lib.itoa_length_le n this.1 this.2)
    rw [List.length_map] at hlen
    have hsz : sep.data.toList.length ≤ 10 := by simpa using hs
    have hmul : (21 + sep.data.toList.length) * l.length ≤ 31 * 1000 := Nat.mul_le_mul (by omega) hl
    unfold strings_Join.f
    rw [hm, if_pos (by rw [hs', List.length_map]; omega), if_pos (by omega)]) (by
    intro i s hi hs' ih
    refine Ev.step (fun k => by rw [impl_joined.l0]) ?_
    have h1 := allIn_rd hb hi
    have hsl : s.length = i := by rw [hs', List.length_map, List.length_take]; omega
    refine Ev.pos (by omega) (Ev.pos (by omega) (Ev.pos (by omega) (Ev.bind (a := (⟨(Lib.itoa (rd l (i : Int))).toArray⟩ : ByteArray)) (Ev.const ?_) (Ev.pos (by omega) ?_))))
    · unfold strconv_Itoa.f
      rw [if_pos h1.1, if_pos h1.2]
    · rw [wrap_succ hi (by omega)]
      refine ih _ ?_
      rw [take_rd hi, List.map_append, hs']
      rfl)
  exact key 0 [] (by omega) rfl
theorem cupsText_ev {l : List Int} {u : Int} (h : goodC l u = true) : Ev (fun k => impl_cupsText.f k l u) (textC l u) := by
  obtain ⟨h1, h2, h3, h4, h5⟩ := goodC_text h
  obtain ⟨_, _, _, h6, h7, _⟩ := goodC_len h
  have hone : ∀ s : List UInt8, (⟨s.toArray⟩ : ByteArray) ++ ⟨#[47]⟩ = ⟨(s ++ [47]).toArray⟩ := fun s => mk_append s [47]
  have hit : strconv_Itoa.f u = some ⟨(Lib.itoa u).toArray⟩ := by
    unfold strconv_Itoa.f
    rw [if_pos (by omega), if_pos (by omega)]
  have hj := joined_ev l ⟨#[45]⟩ h1 (by decide) (allIn_mono h2 (by omega) (by omega))
  refine Ev.congr (fun k => by rw [impl_cupsText.f, hit]) ?_
  refine Ev.bind hj (Ev.pos ?_ (Ev.some_ (Ev.pos ?_ ?_)))
  · show (Lib.join (l.map Lib.itoa) [45]).toArray.size + 1 ≤ _
    simp only [List.size_toArray]
    omega
  · rw [hone]
    show (Lib.join (l.map Lib.itoa) [45] ++ [47]).toArray.size + (Lib.itoa u).toArray.size ≤ _
    simp only [List.size_toArray, List.length_append, List.length_singleton]
    omega
  · rw [hone, mk_append]
    exact Ev.now _
theorem both_CupsText (l : List Int) (u : Int) (hl : l.length ≤ 1048576) : ∃ w : ByteArray × Bool, Ev (fun k => spec_CupsText.f k l u) w ∧ Ev (fun k => impl_CupsText.f k l u) w := by
  cases h : goodC l u with
  | false =>
    refine ⟨(⟨#[]⟩, false), Ev.bind (cuGood_ev l u hl) ?_, Ev.bind (areCups_ev l u hl) ?_⟩ <;> (rw [h]; exact Ev.neg (by decide) (Ev.now _))
  | true =>
    refine ⟨(textC l u, true), Ev.bind (cuGood_ev l u hl) ?_, Ev.bind (areCups_ev l u hl) ?_⟩
    · rw [h]; exact Ev.pos rfl (Ev.bind (cuText_ev h) (Ev.now _))
    · rw [h]; exact Ev.pos rfl (Ev.bind (cupsText_ev h) (Ev.now _))
theorem FnExactCupsText : laws_FnExactCupsText.Pure := by
  intro l u h0 h1 h2 h3
  refine Ev.rounds ?_
  by_cases hl : l.length ≤ 1048576
  · refine Ev.congr (fun k => by rw [laws_FnExactCupsText.f, szCups_small l u hl]) ?_
    obtain ⟨w, hS, hI⟩ := both_CupsText l u hl
    refine Ev.some_ (Ev.neg (by omega) (Ev.bind (toCups_ev l u hl) (Ev.bind hS (Ev.bind (toCups_ev l u hl) (Ev.bind hI (Ev.pos rfl ?_))))))
    refine Ev.step (fun k => by rw [laws_FnExactCupsText.j0]) ?_
    refine Ev.neg (by simp) (Ev.bind (toCups_ev l u hl) (Ev.bind (eqCups_ev l l u u hl rfl rfl) (Ev.pos rfl (Ev.now _))))
  · refine Ev.congr (fun k => by rw [laws_FnExactCupsText.f, szCups_big l u hl (by unfold maxLen at h0; omega)]) ?_
    exact Ev.some_ (Ev.pos (by decide) (Ev.now _))

end Go.Proofs.YteneeeepocefaaaDoor.Pure
