/- What is proved here: the pure statement of the law FnExactCountBestPlans: for every input the law, as the print tells it, answers true. No condition. (The row that follows from it says it of the Go program.) -/
import Derived.Test.YteneeeepocefaaaPFnExactCountBestPlansx4
import Derived.Test.YteneeeepocefaaaBase
set_option linter.unusedSimpArgs false
set_option linter.unusedVariables false
namespace Go.Proofs.Yteneeeepocefaaa.Pure
open Go.RowKit Go.Proofs.Yteneeeepocefaaa.PFnExactCountBestPlans Go.Proofs.YteneeeepocefaaaW.PrintWords Go.Proofs.YteneeeepocefaaaW.PrintLast Go.Proofs.Yteneeeepocefaaa.Base

theorem toIntS_ev (l : List Int) (hl : l.length ≤ 1048576) : Ev (fun k => laws_toIntS.f k l) l := by
  have key := range (n := l.length) (fun (s : List Int) i k => laws_toIntS.l0 k l s i) (fun _ _ => l) (fun i s => s.length = l.length ∧ s.take i = l.take i) (by
    intro s ⟨h1, h2⟩
    refine Ev.step (fun k => by rw [laws_toIntS.l0]) ?_
    refine Ev.neg (by omega) ?_
    rw [List.take_of_length_le (by omega), List.take_of_length_le (by omega)] at h2
    rw [h2]
    exact Ev.now _) (by
    intro i s hi ⟨h1, h2⟩ ih
    refine Ev.step (fun k => by rw [laws_toIntS.l0]) ?_
    refine Ev.pos (by omega) (Ev.pos (by omega) (Ev.pos (by omega) ?_))
    rw [wrap_succ hi (by omega), Int.toNat_natCast]
    refine ih _ ⟨by simpa using h1, ?_⟩
    have hs : i < s.length := by omega
    rw [take_rd hi, ← h2, List.take_succ_eq_append_getElem (by simpa using hs), List.take_set_of_le (Nat.le_refl _)]
    simp)
  refine Ev.pos (by omega) (Ev.pos (by omega) ?_)
  rw [Int.toNat_natCast]
  exact key 0 _ (by omega) ⟨by simp, rfl⟩
theorem eqIntS_ev (l m : List Int) (hl : l.length ≤ 1048576) (h : l = m) : Ev (fun k => laws_eqIntS.f k l m) true := by
  subst h
  have key := range (n := l.length) (fun (_ : Unit) i k => laws_eqIntS.l0 k l l i) (fun _ _ => true) (fun _ _ => True) (by
    intro s _
    refine Ev.step (fun k => by rw [laws_eqIntS.l0]) ?_
    exact Ev.neg (by omega) (Ev.now _)) (by
    intro i s hi _ ih
    refine Ev.step (fun k => by rw [laws_eqIntS.l0]) ?_
    refine Ev.pos (by omega) (Ev.pos (by omega) (Ev.pos (by omega) (Ev.pos rfl ?_)))
    rw [wrap_succ hi (by omega)]
    exact ih s trivial)
  exact Ev.pos rfl (key 0 () (by omega) trivial)
theorem l1In_eq (a b c : Int) : spec_l1In.f a b c = some (decide (b ≤ a ∧ a ≤ c)) := by
  unfold spec_l1In.f
  by_cases h : a ≥ b
  · rw [if_pos h]; simp [h]
  · rw [if_neg h]; simp [h]
theorem l1All_ev (l : List Int) (a b : Int) (hl : l.length ≤ 1048576) : Ev (fun k => spec_l1All.f k l a b) (l.all fun x => decide (a ≤ x ∧ x ≤ b)) := by
  have key := range (n := l.length) (fun (_ : Unit) i k => spec_l1All.l0 k a b l (l.length : Int) i) (fun i _ => (l.drop i).all fun x => decide (a ≤ x ∧ x ≤ b)) (fun _ _ => True) (by
    intro s _
    refine Ev.step (fun k => by rw [spec_l1All.l0]) ?_
    rw [List.drop_length]
    exact Ev.neg (by omega) (Ev.now _)) (by
    intro i s hi _ ih
    refine Ev.step (fun k => by rw [spec_l1All.l0]) ?_
    refine Ev.pos (by omega) (Ev.pos (by omega) (Ev.pos (by omega) ?_))
    rw [l1In_eq, drop_rd hi, List.all_cons]
    refine Ev.some_ ?_
    cases h : decide (a ≤ rd l (i : Int) ∧ rd l (i : Int) ≤ b) with
    | true =>
      refine Ev.pos rfl ?_
      rw [wrap_succ hi (by omega), Bool.true_and]
      exact ih () trivial
    | false => exact Ev.neg (by decide) (Ev.now _))
  exact key 0 () (by omega) trivial
theorem ldGood_ev (l : List Int) (hl : l.length ≤ 1048576) : Ev (fun k => spec_ldGood.f k l) (areJobs l) := by
  refine Ev.congr (fun k => by rw [spec_ldGood.f, l1In_eq]) ?_
  refine Ev.some_ ?_
  unfold areJobs
  by_cases h : (1 : Int) ≤ (l.length : Int) ∧ (l.length : Int) ≤ 9
  · refine Ev.pos (decide_eq_true h) ?_
    rw [decide_eq_true h, Bool.true_and]
    exact Ev.bind (l1All_ev l 1 1000 hl) (Ev.now _)
  · refine Ev.neg (by simpa using h) ?_
    rw [decide_eq_false h, Bool.false_and]
    exact Ev.now _
def asked (l : List Int) (m : Int) : Bool := areJobs l && decide (1 ≤ m ∧ m ≤ 4)
theorem asked_iff {l : List Int} {m : Int} : asked l m = true ↔ areJobs l = true ∧ 1 ≤ m ∧ m ≤ 4 := by
  unfold asked
  rw [Bool.and_eq_true, decide_eq_true_eq]
theorem ldAsked_ev (l : List Int) (m : Int) (hl : l.length ≤ 1048576) : Ev (fun k => spec_ldAsked.f k l m) (asked l m) := by
  refine Ev.bind (ldGood_ev l hl) ?_
  unfold asked
  cases areJobs l with
  | true => exact Ev.pos rfl (Ev.bind (Ev.const (l1In_eq m 1 4)) (Ev.now _))
  | false => exact Ev.neg (by decide) (Ev.now _)
theorem l1Most_eq (a b : Int) : spec_l1Most.f a b = some (max a b) := by
  unfold spec_l1Most.f
  split <;> congr 1 <;> omega
theorem l1Own_eq (l : List Int) (hl : l.length ≤ 1048576) : spec_l1Own.f l = some l := by
  unfold spec_l1Own.f
  simp only [Option.bind_some, List.nil_append, List.length_nil]
  rw [if_pos (by omega)]
theorem hpSum_ev (l : List Int) (hl : l.length ≤ 1048576) (hb : allIn l (-1099511627776) 1099511627776 = true) : Ev (fun k => spec_hpSum.f k l) (lsum l) := by
  have key := range (n := l.length) (fun (s : Int) i k => spec_hpSum.l0 k s l (l.length : Int) i) (fun i s => lsumF s (l.drop i)) (fun i s => -1099511627776 * (i : Int) ≤ s ∧ s ≤ 1099511627776 * (i : Int)) (by
    intro s _
    refine Ev.step (fun k => by rw [spec_hpSum.l0]) ?_
    rw [List.drop_length]
    exact Ev.neg (by omega) (Ev.now _)) (by
    intro i s hi hs ih
    refine Ev.step (fun k => by rw [spec_hpSum.l0]) ?_
    refine Ev.pos (by omega) (Ev.pos (by omega) (Ev.pos (by omega) ?_))
    have := allIn_rd hb hi
    rw [wrap_succ hi (by omega), wrap_id (by omega) (by omega), drop_rd hi]
    exact ih _ (by omega))
  exact key 0 0 (by omega) (by omega)
/- ## the search -/
theorem bump_ge {acc : List Int} {p j : Int} (hj : 0 ≤ j) (i : Nat) (hi : i < acc.length) : rd acc (i : Int) ≤ rd (bump acc p j) (i : Int) := by
  unfold bump
  by_cases e : i = p.toNat
  · subst e
    rw [rd_get (l := acc.set _ _) (by rw [List.length_set]; exact hi), List.getElem_set_self]
    by_cases hp : 0 ≤ p
    · have : rd acc p = rd acc ((p.toNat : Nat) : Int) := by rw [Int.toNat_of_nonneg hp]
      omega
    · have h0 : p.toNat = 0 := by omega
      have : rd acc p = rd acc ((p.toNat : Nat) : Int) := by
        unfold rd
        rw [h0]
        rfl
      omega
  · rw [rd_get (l := acc.set _ _) (by rw [List.length_set]; exact hi), List.getElem_set_ne (by omega), ← rd_get hi]
    exact Int.le_refl _
theorem loadsF_ge : ∀ (ps acc js : List Int), (∀ x ∈ js, 0 ≤ x) → ∀ i : Nat, i < acc.length → rd acc (i : Int) ≤ rd (loadsF acc ps js) (i : Int)
  | [], acc, js, _, i, _ => by cases js <;> exact Int.le_refl _
  | p :: ps, acc, [], _, i, _ => Int.le_refl _
  | p :: ps, acc, j :: js, h, i, hi => by
    refine Int.le_trans (bump_ge (p := p) (h j List.mem_cons_self) i hi) ?_
    exact loadsF_ge ps (bump acc p j) js (fun x hx => h x (List.mem_cons_of_mem _ hx)) i (by rw [bump_length]; exact hi)
theorem loadsF_app : ∀ (ps qs acc js : List Int), ps.length ≤ js.length → loadsF acc (ps ++ qs) js = loadsF (loadsF acc ps js) qs (js.drop ps.length)
  | [], qs, acc, js, _ => by cases js <;> rfl
  | p :: ps, qs, acc, [], h => by simp at h
  | p :: ps, qs, acc, j :: js, h => by
    show loadsF (bump acc p j) (ps ++ qs) js = loadsF (loadsF (bump acc p j) ps js) qs (js.drop ps.length)
    exact loadsF_app ps qs (bump acc p j) js (by simpa using h)
theorem loads_snoc {jobs plan : List Int} {m : Int} (i : Nat) (h : plan.length < jobs.length) : loads jobs m (plan ++ [(i : Int)]) = (loads jobs m plan).set i (rd (loads jobs m plan) (i : Int) + rd jobs (plan.length : Int)) := by
  unfold loads
  rw [loadsF_app plan _ _ _ (by omega), drop_rd h]
  show bump (loadsF _ plan jobs) (i : Int) (rd jobs (plan.length : Int)) = _
  unfold bump
  rw [Int.toNat_natCast]
theorem top_eq (l : List Int) : LdLook.top l = lmaxF 0 l := by
  have : ∀ (l : List Int) (a : Int), l.foldl (fun a n => if a > n then a else n) a = lmaxF a l := by
    intro l
    induction l with
    | nil => intro a; rfl
    | cons x t ih =>
      intro a
      rw [List.foldl_cons, ih]
      show _ = lmaxF (max a x) t
      congr 1
      split <;> omega
  exact this l 0
theorem end_mono {jobs plan : List Int} {m : Int} (hj : ∀ x ∈ jobs, 0 ≤ x) (y : List Int) (h : plan.length ≤ jobs.length) : lmaxF 0 (loads jobs m plan) ≤ endOf jobs m (plan ++ y) := by
  unfold endOf
  have e : loads jobs m (plan ++ y) = loadsF (loads jobs m plan) y (jobs.drop plan.length) := loadsF_app plan y _ jobs h
  refine lmaxF_le (le_lmaxF _ _) (fun x hx => ?_)
  obtain ⟨i, hi, rfl⟩ := List.getElem_of_mem hx
  have hi2 : i < (loads jobs m (plan ++ y)).length := by rw [loads_length]; rwa [loads_length] at hi
  have h1 : rd (loads jobs m plan) (i : Int) ≤ rd (loads jobs m (plan ++ y)) (i : Int) := by
    rw [e]
    exact loadsF_ge y _ _ (fun x hx => hj x (List.mem_of_mem_drop hx)) i hi
  rw [rd_get hi] at h1
  exact Int.le_trans h1 (mem_le_lmaxF _ _ _ (rd_mem hi2))
def lookStep (jobs : List Int) (m : Int) (s : Int × List Int × Int) (q : List Int) : Int × List Int × Int := if endOf jobs m q > s.1 then s else if endOf jobs m q < s.1 then (endOf jobs m q, q, 1) else (s.1, s.2.1, wrap64 (s.2.2 + 1))
theorem fold_still {α β : Type} (f : β → α → β) (s : β) : ∀ L : List α, (∀ q ∈ L, f s q = s) → L.foldl f s = s
  | [], _ => rfl
  | q :: L, h => by
    rw [List.foldl_cons, h q List.mem_cons_self]
    exact fold_still f s L (fun x hx => h x (List.mem_cons_of_mem _ hx))
theorem look_eq {jobs : List Int} {M : Nat} (hn : jobs.length ≤ 9) (hM : 1 ≤ M) (hM4 : M ≤ 4) (hj : allIn jobs 1 1000 = true) : ∀ (r k : Nat) (plan : List Int) (s : Int × List Int × Int), plan.length + r = jobs.length → r < k → allIn plan 0 ((M : Int) - 1) = true → LdLook.f jobs k plan (loads jobs (M : Int) plan) s = some (((allL (M - 1) r).map (plan ++ ·)).foldl (lookStep jobs (M : Int)) s) := by
  have hj0 : ∀ x ∈ jobs, 0 ≤ x := fun x hx => by have := allIn_iff.1 hj x hx; omega
  intro r
  induction r with
  | zero =>
    intro k plan s hl hk hp
    obtain ⟨k, rfl⟩ : ∃ k', k = k' + 1 := ⟨k - 1, by omega⟩
    have hll := loads_length jobs (M : Int) plan
    have he : endOf jobs (M : Int) plan = LdLook.top (loads jobs (M : Int) plan) := (top_eq _).symm
    rw [LdLook.f, if_pos ⟨by rw [hll]; omega, by omega⟩]
    simp only [allL, List.map_cons, List.map_nil, List.append_nil, List.foldl_cons, List.foldl_nil]
    unfold lookStep
    rw [he]
    by_cases c1 : LdLook.top (loads jobs (M : Int) plan) > s.1
    · rw [if_pos c1, if_pos c1]
    · rw [if_neg c1, if_neg c1, if_pos (by omega)]
      by_cases c2 : LdLook.top (loads jobs (M : Int) plan) < s.1
      · rw [if_pos c2, if_pos c2]
      · rw [if_neg c2, if_neg c2]
  | succ r ih =>
    intro k plan s hl hk hp
    obtain ⟨k, rfl⟩ : ∃ k', k = k' + 1 := ⟨k - 1, by omega⟩
    have hll := loads_length jobs (M : Int) plan
    rw [Int.toNat_natCast] at hll
    rw [LdLook.f, if_pos ⟨by rw [hll]; omega, by omega⟩]
    by_cases c1 : LdLook.top (loads jobs (M : Int) plan) > s.1
    · rw [if_pos c1, fold_still]
      intro q hq
      obtain ⟨y, _, rfl⟩ := List.mem_map.1 hq
      have := end_mono (m := (M : Int)) hj0 y (show plan.length ≤ jobs.length by omega)
      rw [top_eq] at c1
      unfold lookStep
      rw [if_pos (by omega)]
    · rw [if_neg c1, if_neg (by omega)]
      have hb : allIn (loads jobs (M : Int) plan) 0 (1000 * jobs.length) = true := by
        have := loadsF_allIn plan (List.replicate (M : Int).toNat 0) jobs 0 (allIn_rep _ (Int.le_refl _) (Int.le_refl _)) (allIn_mono hj (by decide) (Int.le_refl _)) (by rw [List.length_replicate]; exact allIn_mono hp (Int.le_refl _) (by omega))
        rwa [Int.zero_add] at this
      have loop : ∀ (d i : Nat) (s : Int × List Int × Int), i + d = M → LdLook.loop (LdLook.f jobs k) jobs plan (loads jobs (M : Int) plan) d i s = some (((digsFrom (allL (M - 1) r) (i : Int) d).map (plan ++ ·)).foldl (lookStep jobs (M : Int)) s) := by
        intro d
        induction d with
        | zero => intro i s _; rfl
        | succ d ihd =>
          intro i s hi
          have hx := allIn_rd hb (i := i) (by omega)
          have hy := allIn_rd hj (i := plan.length) (by omega)
          rw [LdLook.loop, if_pos (by omega), wrap_id (by omega) (by omega), ← loads_snoc i (by omega), ih k (plan ++ [(i : Int)]) s (by rw [List.length_append]; simp; omega) (by omega) (allIn_app hp (allIn_one (by omega) (by omega))), Option.bind_some, ihd (i + 1) _ (by omega), digsFrom, show ((i : Int) + 1) = ((i + 1 : Nat) : Int) from by omega, List.map_append, List.foldl_append, List.map_map]
          have e : ((fun x => plan ++ x) ∘ fun x => (i : Int) :: x) = fun x => plan ++ [(i : Int)] ++ x := funext fun x => by simp
          rw [e]
      have := loop M 0 s (by omega)
      rw [hll, this]
      show _ = some (((digsFrom (allL (M - 1) r) 0 (M - 1 + 1)).map (plan ++ ·)).foldl (lookStep jobs (M : Int)) s)
      rw [show M - 1 + 1 = M from by omega]
      rfl
theorem allL_ne (most : Nat) : ∀ n, allL most n ≠ []
  | 0 => by simp [allL]
  | n + 1 => by
    have := allL_ne most n
    unfold allL digsFrom
    simp [this]
theorem loadsF_le : ∀ (ps acc js : List Int), (∀ x ∈ js, 0 ≤ x) → ∀ (b : Int), allIn acc 0 b = true → allIn ps 0 ((acc.length : Int) - 1) = true → allIn (loadsF acc ps js) 0 (b + lsum js) = true
  | [], acc, js, h, b, ha, _ => by
    have : 0 ≤ lsum js := by
      clear ha
      induction js with
      | nil => simp [lsum_nil]
      | cons x t ih =>
        have h1 := h x List.mem_cons_self
        have h2 := ih (fun y hy => h y (List.mem_cons_of_mem _ hy))
        rw [lsum_cons]; omega
    cases js <;> exact allIn_mono ha (Int.le_refl _) (by omega)
  | p :: ps, acc, [], h, b, ha, _ => by
    rw [lsum_nil, Int.add_zero]
    exact ha
  | p :: ps, acc, j :: js, h, b, ha, hp => by
    have hj := h j List.mem_cons_self
    have hp1 := allIn_iff.1 hp p List.mem_cons_self
    have hr := allIn_at ha hp1.1 (by omega)
    rw [lsum_cons, show b + (j + lsum js) = (b + j) + lsum js from by omega]
    refine loadsF_le ps (bump acc p j) js (fun x hx => h x (List.mem_cons_of_mem _ hx)) (b + j) ?_ (by rw [bump_length]; exact allIn_iff.2 fun x hx => allIn_iff.1 hp x (List.mem_cons_of_mem _ hx))
    unfold bump
    exact allIn_set (allIn_mono ha (Int.le_refl _) (by omega)) (by omega) (by omega) _
theorem end_le_sum {jobs plan : List Int} {m : Int} (h : Planned jobs m plan) : endOf jobs m plan ≤ lsum jobs := by
  have hj0 : ∀ x ∈ jobs, 0 ≤ x := fun x hx => by have := allIn_iff.1 h.job x hx; omega
  have hm := h.m1
  have := loadsF_le plan (List.replicate m.toNat 0) jobs hj0 0 (allIn_rep _ (Int.le_refl _) (Int.le_refl _)) (by rw [List.length_replicate]; exact allIn_mono h.at_ (Int.le_refl _) (by omega))
  have hs : 0 ≤ lsum jobs := by
    have := (lsum_le h.job).1
    omega
  refine lmaxF_le hs (fun x hx => ?_)
  have := allIn_iff.1 this x hx
  omega
theorem ldBest_ev {jobs : List Int} {m : Int} (h9 : jobs.length ≤ 9) (hj : allIn jobs 1 1000 = true) (h1 : 1 ≤ m) (h4 : m ≤ 4) {z : Int × List Int × Int} (hz : (allL (m.toNat - 1) jobs.length).foldl (lookStep jobs m) (lsum jobs + 1, [], 0) = z) : Ev (fun k => spec_ldBest.f k jobs m) (z.2.1, z.1, z.2.2) := by
  have hs := lsum_le hj
  refine Ev.bind (hpSum_ev jobs (by omega) (allIn_mono hj (by decide) (by decide))) (Ev.pos (by omega) (Ev.pos (by omega) ?_))
  rw [wrap_id (by omega) (by omega)]
  obtain ⟨M, rfl⟩ := Int.eq_ofNat_of_zero_le (show 0 ≤ m by omega)
  rw [Int.toNat_natCast] at hz ⊢
  refine Ev.bind (a := z) ⟨jobs.length + 1, fun k hk => ?_⟩ (Ev.now _)
  have := look_eq h9 (show 1 ≤ M by omega) (by omega) hj jobs.length k [] (lsum jobs + 1, [], 0) (by simp) (by omega) rfl
  have e : loads jobs (M : Int) [] = List.replicate M 0 := by
    unfold loads
    cases jobs <;> rfl
  rw [e] at this
  show LdLook.f jobs k [] (List.replicate M 0) (lsum jobs + 1, [], 0) = some z
  rw [this]
  have e2 : (allL (M - 1) jobs.length).map (([] : List Int) ++ ·) = allL (M - 1) jobs.length := by simp
  rw [e2, hz]
theorem odo {σ : Type} (cb : Nat → σ → List Int → Option σ) (step : σ → List Int → σ) (most n : Nat) (hm : most ≤ 1000) (hn : n ≤ 1000) (hcb : ∀ s l, l.length = n → allIn l 0 (most : Int) = true → Ev (fun k => cb k s l) (step s l)) (r : σ) :
    ∀ (m : Nat) (pre : List Int) (s : σ), pre.length + m = n → allIn pre 0 (most : Int) = true → Ev (fun k => impl_listsOf.l1 cb k (n : Int) (most : Int) (pre ++ List.replicate m 0) ((pre.length : Int) - 1) ((allL most m).foldl (fun s y => step s (pre ++ y)) s)) r → Ev (fun k => impl_listsOf.l0 cb k (n : Int) (most : Int) (pre ++ List.replicate m 0) s) r := by
  intro m
  induction m with
  | zero =>
    intro pre s hl hp h
    simp only [List.replicate_zero, List.append_nil, allL, List.foldl_cons, List.foldl_nil] at h ⊢
    refine Ev.step (fun k => by rw [impl_listsOf.l0]) ?_
    refine Ev.bind (hcb s pre (by omega) hp) ?_
    rw [wrap_id (by omega) (by omega), show (n : Int) - 1 = (pre.length : Int) - 1 from by omega]
    exact h
  | succ m ih =>
    intro pre s hl hp h
    have key : ∀ (e d : Nat) (s : σ), d + e = most → Ev (fun k => impl_listsOf.l1 cb k (n : Int) (most : Int) (pre ++ List.replicate (m + 1) 0) ((pre.length : Int) - 1) ((digsFrom (allL most m) (d : Int) (e + 1)).foldl (fun s y => step s (pre ++ y)) s)) r → Ev (fun k => impl_listsOf.l0 cb k (n : Int) (most : Int) (pre ++ (d : Int) :: List.replicate m 0) s) r := by
      intro e
      induction e with
      | zero =>
        intro d s hd h
        have hx := ih (pre ++ [(d : Int)]) s (by simp; omega) (allIn_app hp (allIn_one (by omega) (by omega)))
        rw [List.append_assoc, List.singleton_append] at hx
        refine hx ?_
        simp only [digsFrom, List.append_nil, List.foldl_map] at h
        have hf : (fun s y => step s (pre ++ [(d : Int)] ++ y)) = fun s y => step s (pre ++ (d : Int) :: y) := funext fun s => funext fun y => by rw [List.append_assoc]; rfl
        rw [hf]
        refine Ev.step (fun k => by rw [impl_listsOf.l1]) ?_
        rw [show (((pre ++ [(d : Int)]).length : Nat) : Int) - 1 = (pre.length : Int) from by rw [List.length_append]; simp]
        rw [rd_mid]
        refine Ev.pos (by omega) (Ev.pos (by omega) (Ev.pos (by rw [List.length_append, List.length_cons]; omega) (Ev.pos (by omega) ?_)))
        rw [Int.toNat_natCast, set_app, wrap_id (by omega) (by omega)]
        exact h
      | succ e ihe =>
        intro d s hd h
        have hx := ih (pre ++ [(d : Int)]) s (by simp; omega) (allIn_app hp (allIn_one (by omega) (by omega)))
        rw [List.append_assoc, List.singleton_append] at hx
        refine hx ?_
        have hf : (fun s y => step s (pre ++ [(d : Int)] ++ y)) = fun s y => step s (pre ++ (d : Int) :: y) := funext fun s => funext fun y => by rw [List.append_assoc]; rfl
        rw [hf]
        refine Ev.step (fun k => by rw [impl_listsOf.l1]) ?_
        rw [show (((pre ++ [(d : Int)]).length : Nat) : Int) - 1 = (pre.length : Int) from by rw [List.length_append]; simp]
        rw [rd_mid]
        refine Ev.pos (by omega) (Ev.pos (by omega) (Ev.pos (by rw [List.length_append, List.length_cons]; omega) (Ev.neg (by omega) (Ev.neg (by omega) ?_))))
        rw [Int.toNat_natCast, set_app, wrap_id (by omega) (by omega), show (d : Int) + 1 = ((d + 1 : Nat) : Int) from by omega]
        refine ihe (d + 1) _ (by omega) ?_
        rw [digsFrom, List.foldl_append, List.foldl_map] at h
        exact h
    rw [List.replicate_succ]
    exact key most 0 s (by omega) h
theorem listsOf_ev {σ : Type} (cb : Nat → σ → List Int → Option σ) (step : σ → List Int → σ) (most n : Nat) (hm : most ≤ 1000) (hn : n ≤ 1000) (hcb : ∀ s l, l.length = n → allIn l 0 (most : Int) = true → Ev (fun k => cb k s l) (step s l)) (s0 : σ) :
    Ev (fun k => impl_listsOf.f cb k (n : Int) (most : Int) s0) ((allL most n).foldl step s0) := by
  refine Ev.pos (by omega) (Ev.pos (by omega) ?_)
  rw [Int.toNat_natCast]
  refine odo cb step most n hm hn hcb _ n [] s0 (by simp) rfl ?_
  refine Ev.step (fun k => by rw [impl_listsOf.l1]) ?_
  refine Ev.neg (by simp) (Ev.pos (by simp) ?_)
  exact Ev.now _
theorem within_eq (a b c : Int) : impl_within.f a b c = some (decide (b ≤ a ∧ a ≤ c)) := by
  unfold impl_within.f
  by_cases h : a ≥ b
  · rw [if_pos h]; simp [h]
  · rw [if_neg h]; simp [h]
theorem areIn_eq (l : List Int) (a b : Int) : impl_areIn.f l a b = some (l.all fun x => decide (a ≤ x ∧ x ≤ b)) := rfl
theorem areJobs_eq (l : List Int) : impl_AreJobs.f l = some (areJobs l) := by
  unfold impl_AreJobs.f areJobs
  rw [within_eq, Option.bind_some]
  by_cases h : (1 : Int) ≤ (l.length : Int) ∧ (l.length : Int) ≤ 9
  · rw [if_pos (decide_eq_true h), decide_eq_true h, Bool.true_and]
    rfl
  · rw [if_neg (by simpa using h), decide_eq_false h, Bool.false_and]
theorem areMachines_eq (l : List Int) (m : Int) : impl_areMachines.f l m = some (asked l m) := by
  unfold impl_areMachines.f asked
  rw [areJobs_eq, Option.bind_some]
  cases areJobs l with
  | true => rw [if_pos rfl, within_eq]; rfl
  | false => rfl
theorem max_ev (l : List Int) (h : l ≠ []) (hl : l.length ≤ 1048576) : Ev (fun k => slices_Max_int_int.f k l) (lmax l) := by
  have hp : 1 ≤ l.length := List.length_pos_iff.2 h
  have key := range (n := l.length) (fun (s : Int) i k => slices_Max_int_int.l0 k l s i) (fun i s => lmaxF s (l.drop i)) (fun _ _ => True) (by
    intro s _
    refine Ev.step (fun k => by rw [slices_Max_int_int.l0]) ?_
    rw [List.drop_length]
    exact Ev.neg (by omega) (Ev.now _)) (by
    intro i s hi _ ih
    refine Ev.step (fun k => by rw [slices_Max_int_int.l0]) ?_
    refine Ev.pos (by omega) (Ev.pos (by omega) ?_)
    rw [wrap_succ hi (by omega), mx_eq, drop_rd hi]
    exact ih _ trivial)
  refine Ev.neg (by omega) (Ev.pos (by omega) ?_)
  exact key 1 _ hp trivial
theorem loadsOf_ev {jobs plan : List Int} {m : Int} (h : Planned jobs m plan) : Ev (fun k => impl_loadsOf.f k jobs m plan) (loads jobs m plan) := by
  obtain ⟨h1, h2, h3, h4, h5, h6, h7⟩ := h
  have key := range (n := plan.length) (fun (s : List Int) i k => impl_loadsOf.l0 k jobs s plan (plan.length : Int) i) (fun i s => loadsF s (plan.drop i) (jobs.drop i)) (fun i s => s.length = m.toNat ∧ allIn s 0 (1000 * (i : Int)) = true) (by
    intro s _
    refine Ev.step (fun k => by rw [impl_loadsOf.l0]) ?_
    rw [List.drop_length]
    refine Ev.neg (by omega) ?_
    rw [List.drop_of_length_le (by omega)]
    exact Ev.now _) (by
    intro i s hi ⟨i1, i2⟩ ih
    have hp := allIn_rd h7 hi
    have hj := allIn_rd h4 (i := i) (by omega)
    have hs := allIn_at i2 (p := rd plan (i : Int)) (by omega) (by omega)
    refine Ev.step (fun k => by rw [impl_loadsOf.l0]) ?_
    refine Ev.pos (by omega) (Ev.pos (by omega) (Ev.pos (by omega) (Ev.pos (by omega) (Ev.pos (by omega) (Ev.pos (by omega) ?_)))))
    rw [wrap_succ hi (by omega), wrap_id (by omega) (by omega), drop_rd hi, drop_rd (l := jobs) (i := i) (by omega)]
    refine ih _ ⟨by simpa using i1, allIn_set (allIn_mono i2 (Int.le_refl _) (by omega)) (by omega) (by omega) _⟩)
  refine Ev.pos (by omega) (Ev.pos (by omega) ?_)
  exact key 0 _ (by omega) ⟨by simp, allIn_rep _ (by decide) (by decide)⟩
theorem endOf_ev {jobs plan : List Int} {m : Int} (h : Planned jobs m plan) : Ev (fun k => impl_endOf.f k jobs m plan) (endOf jobs m plan) := by
  refine Ev.bind (loadsOf_ev h) ?_
  have hlen := loads_length jobs m plan
  have hm := h.m4
  have hne : loads jobs m plan ≠ [] := loads_ne h.m1
  have he : endOf jobs m plan = lmax (loads jobs m plan) := lmaxF_zero hne (fun x hx => (allIn_iff.1 h.loads_allIn x hx).1)
  rw [he]
  exact Ev.bind (max_ev _ hne (by omega)) (Ev.now _)
theorem clone_eq (l : List Int) (hl : l.length ≤ 1048576) : slices_Clone_int_int.f l = some l := by
  unfold slices_Clone_int_int.f
  rw [if_pos (by omega)]
def bestStep (jobs : List Int) (m : Int) (s : List Int × Int × Int) (q : List Int) : List Int × Int × Int := if s.1 = [] then (q, endOf jobs m q, 1) else if endOf jobs m q < s.2.1 then (q, endOf jobs m q, 1) else if endOf jobs m q = s.2.1 then (s.1, s.2.1, wrap64 (s.2.2 + 1)) else s
theorem bestPlans_ev {jobs : List Int} {m : Int} (hn1 : 1 ≤ jobs.length) (h9 : jobs.length ≤ 9) (hj : allIn jobs 1 1000 = true) (h1 : 1 ≤ m) (h4 : m ≤ 4) (ha : asked jobs m = true) {z : List Int × Int × Int} (hz : (allL (m.toNat - 1) jobs.length).foldl (bestStep jobs m) ([], 0, 0) = z) : Ev (fun k => impl_bestPlans.f k jobs m) (z.2.1, z.1, z.2.2, true) := by
  refine Ev.bind (Ev.const (areMachines_eq jobs m)) ?_
  rw [ha]
  refine Ev.pos rfl ?_
  obtain ⟨M, rfl⟩ := Int.eq_ofNat_of_zero_le (show 0 ≤ m by omega)
  rw [Int.toNat_natCast] at hz
  rw [wrap_id (by omega) (by omega), show (M : Int) - 1 = ((M - 1 : Nat) : Int) from by omega]
  have key := listsOf_ev (BestPlans.cb jobs (M : Int)) (bestStep jobs (M : Int)) (M - 1) jobs.length (by omega) (by omega) (fun s l hl hal => by
    have hP : Planned jobs (M : Int) l := ⟨hl, h9, hn1, hj, h1, h4, allIn_mono hal (Int.le_refl _) (by omega)⟩
    refine Ev.neg (fun e => by subst e; simp at hl; omega) (Ev.bind (endOf_ev hP) (Ev.bind (Ev.const (clone_eq l (by omega))) ?_))
    by_cases c1 : s.1 = []
    · rw [show bestStep jobs (M : Int) s l = (l, endOf jobs (M : Int) l, 1) from if_pos c1]
      exact Ev.pos c1 (Ev.now _)
    · refine Ev.neg c1 ?_
      by_cases c2 : endOf jobs (M : Int) l < s.2.1
      · rw [show bestStep jobs (M : Int) s l = (l, endOf jobs (M : Int) l, 1) from (if_neg c1).trans (if_pos c2)]
        exact Ev.pos c2 (Ev.now _)
      · refine Ev.neg c2 ?_
        by_cases c3 : endOf jobs (M : Int) l = s.2.1
        · rw [show bestStep jobs (M : Int) s l = (s.1, s.2.1, wrap64 (s.2.2 + 1)) from (if_neg c1).trans ((if_neg c2).trans (if_pos c3))]
          exact Ev.pos c3 (Ev.now _)
        · rw [show bestStep jobs (M : Int) s l = s from (if_neg c1).trans ((if_neg c2).trans (if_neg c3))]
          exact Ev.neg c3 (Ev.now _)) ([], 0, 0)
  rw [hz] at key
  exact Ev.bind key (Ev.now _)
theorem bestPlans_no {jobs : List Int} {m : Int} (ha : asked jobs m = false) : Ev (fun k => impl_bestPlans.f k jobs m) (0, [], 0, false) := by
  refine Ev.bind (Ev.const (areMachines_eq jobs m)) ?_
  rw [ha]
  exact Ev.neg (by decide) (Ev.now _)
theorem both_steps {jobs : List Int} {m : Int} : ∀ (L : List (List Int)) (s : Int × List Int × Int), s.2.1 ≠ [] → (∀ q ∈ L, q ≠ []) → L.foldl (bestStep jobs m) (s.2.1, s.1, s.2.2) = ((L.foldl (lookStep jobs m) s).2.1, (L.foldl (lookStep jobs m) s).1, (L.foldl (lookStep jobs m) s).2.2)
  | [], _, _, _ => rfl
  | q :: L, s, hs, hq => by
    have hq0 := hq q List.mem_cons_self
    have hstep : bestStep jobs m (s.2.1, s.1, s.2.2) q = ((lookStep jobs m s q).2.1, (lookStep jobs m s q).1, (lookStep jobs m s q).2.2) ∧ (lookStep jobs m s q).2.1 ≠ [] := by
      unfold bestStep lookStep
      rw [if_neg hs]
      by_cases c1 : endOf jobs m q > s.1
      · rw [if_pos c1, if_neg (by dsimp only; omega), if_neg (by dsimp only; omega)]
        exact ⟨rfl, hs⟩
      · rw [if_neg c1]
        by_cases c2 : endOf jobs m q < s.1
        · rw [if_pos c2, if_pos c2]
          exact ⟨rfl, hq0⟩
        · rw [if_neg c2, if_neg c2, if_pos (by dsimp only; omega)]
          exact ⟨rfl, hs⟩
    rw [List.foldl_cons, List.foldl_cons, hstep.1]
    exact both_steps L _ hstep.2 (fun x hx => hq x (List.mem_cons_of_mem _ hx))
theorem both_best {jobs : List Int} {m : Int} (hn1 : 1 ≤ jobs.length) (h9 : jobs.length ≤ 9) (hj : allIn jobs 1 1000 = true) (h1 : 1 ≤ m) (h4 : m ≤ 4) : ∃ (e : Int) (B : List Int) (c : Int), B.length ≤ 9 ∧ (allL (m.toNat - 1) jobs.length).foldl (lookStep jobs m) (lsum jobs + 1, [], 0) = (e, B, c) ∧ (allL (m.toNat - 1) jobs.length).foldl (bestStep jobs m) ([], 0, 0) = (B, e, c) := by
  have hP : ∀ q, q ∈ allL (m.toNat - 1) jobs.length → Planned jobs m q := fun q hq => by
    obtain ⟨a1, a2⟩ := allL_ok _ _ _ hq
    exact ⟨a1, h9, hn1, hj, h1, h4, allIn_mono a2 (Int.le_refl _) (by omega)⟩
  have hlen : ∀ (L : List (List Int)) (s : Int × List Int × Int), s.2.1.length ≤ 9 → (∀ q ∈ L, q.length ≤ 9) → (L.foldl (lookStep jobs m) s).2.1.length ≤ 9 := by
    intro L
    induction L with
    | nil => intro s hs _; exact hs
    | cons q L ih =>
      intro s hs hq
      rw [List.foldl_cons]
      refine ih _ ?_ (fun x hx => hq x (List.mem_cons_of_mem _ hx))
      unfold lookStep
      split
      · exact hs
      · split
        · exact hq q List.mem_cons_self
        · exact hs
  have h9q : ∀ q ∈ allL (m.toNat - 1) jobs.length, q.length ≤ 9 := fun q hq => by have := (hP q hq).len; omega
  have hneq : ∀ q ∈ allL (m.toNat - 1) jobs.length, q ≠ [] := fun q hq e => by
    have := (hP q hq).len
    rw [e] at this
    simp at this
    omega
  refine ⟨_, _, _, hlen _ (lsum jobs + 1, [], 0) (by simp) h9q, rfl, ?_⟩
  generalize hL : allL (m.toNat - 1) jobs.length = L at *
  cases L with
  | nil => exact absurd hL (allL_ne _ _)
  | cons q L =>
    have hb := end_le_sum (hP q List.mem_cons_self)
    have s1 : lookStep jobs m (lsum jobs + 1, [], 0) q = (endOf jobs m q, q, 1) := by
      unfold lookStep
      rw [if_neg (by dsimp only; omega), if_pos (by dsimp only; omega)]
    have s2 : bestStep jobs m ([], 0, 0) q = (q, endOf jobs m q, 1) := by
      unfold bestStep
      rw [if_pos rfl]
    rw [List.foldl_cons, List.foldl_cons, s1, s2]
    exact both_steps L (endOf jobs m q, q, 1) (hneq q List.mem_cons_self) (fun x hx => hneq x (List.mem_cons_of_mem _ hx))
theorem both_CountBestPlans (l : List Int) (m : Int) (hl : l.length ≤ 1048576) : ∃ w : Int × Bool, Ev (fun k => spec_CountBestPlans.f k l m) w ∧ Ev (fun k => impl_CountBestPlans.f k l m) w ∧ True := by
  cases h : asked l m with
  | false =>
    refine ⟨(0, false), Ev.bind (ldAsked_ev l m hl) ?_, Ev.bind (bestPlans_no h) (Ev.now _), trivial⟩
    rw [h]; exact Ev.neg (by decide) (Ev.now _)
  | true =>
    obtain ⟨hj, h1, h4⟩ := asked_iff.1 h
    obtain ⟨a1, a9, ab⟩ := areJobs_len hj
    obtain ⟨e, B, c, hB, z1, z2⟩ := both_best a1 a9 ab h1 h4
    refine ⟨(c, true), Ev.bind (ldAsked_ev l m hl) ?_, Ev.bind (bestPlans_ev a1 a9 ab h1 h4 h z2) (Ev.now _), trivial⟩
    rw [h]; exact Ev.pos rfl (Ev.bind (ldBest_ev a9 ab h1 h4 z1) (Ev.now _))
theorem FnExactCountBestPlans : laws_FnExactCountBestPlans.Pure := by
  intro l0 a1 h0_ h1_ h2_ h3_
  refine Ev.rounds ?_
  refine Ev.congr (fun k => by rw [laws_FnExactCountBestPlans.f]) ?_
  by_cases hll0 : (l0.length : Int) > 1048576
  · exact Ev.pos hll0 (Ev.now _)
  refine Ev.neg hll0 ?_
  have hnl0 : l0.length ≤ 1048576 := by omega
  obtain ⟨w, hS, hI, hW⟩ := both_CountBestPlans l0 a1 hnl0
  repeat first
    | (exact Ev.now _)
    | (refine Ev.bind (toIntS_ev l0 hnl0) ?_)
    | (refine Ev.bind hS ?_)
    | (refine Ev.bind hI ?_)
    | (refine Ev.bind (eqIntS_ev _ _ ?_ rfl) ?_; next => (first | assumption | exact hW | exact hW.1 | exact hW.2))
    | (refine Ev.pos ?_ ?_; next => (first | rfl | decide | omega | (dsimp only; omega) | (simp; done)))
    | (refine Ev.neg ?_ ?_; next => (first | decide | omega | (dsimp only; omega) | (simp; done)))
    | (refine Ev.step (fun k => by rw [laws_FnExactCountBestPlans.j0]) ?_)

end Go.Proofs.Yteneeeepocefaaa.Pure
