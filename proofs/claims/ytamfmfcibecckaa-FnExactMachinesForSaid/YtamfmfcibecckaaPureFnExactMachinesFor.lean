/- What is proved here: the pure statement of the law FnExactMachinesFor: for every input the law, as the print tells it, answers true. No condition. (The row that follows from it says it of the Go program.) -/
import Derived.Test.YtamfmfcibecckaaPFnExactMachinesForx6
import Derived.Test.YtamfmfcibecckaaBase
set_option linter.unusedSimpArgs false
set_option linter.unusedVariables false
namespace Go.Proofs.Ytamfmfcibecckaa.Pure
open Go.RowKit Go.Proofs.Ytamfmfcibecckaa.PFnExactMachinesFor Go.Proofs.YtamfmfcibecckaaW.PrintWords Go.Proofs.YtamfmfcibecckaaW.PrintLast Go.Proofs.Ytamfmfcibecckaa.Base

theorem toIntS_ev (l : List Int) (hl : l.length ≤ 1048576) : Ev (fun k => laws_toIntS.f k l) l := by
  have key := range (n := l.length) (fun (s : List Int) i k => laws_toIntS.l0 k l s i) (fun _ _ => l) (fun i s => s.length = l.length ∧ s.take i = l.take i) (by
    intro s ⟨h1, h2⟩
    refine Ev.step (fun k => by rw [laws_toIntS.l0]) ?_
    refine Ev.neg (by omega) ?_
    rw [List.take_of_length_le (by omega), List.take_of_length_le (by omega)] at h2
    rw [h2]
    exact Ev.now _) (by
    intro i s hi ⟨h1, h2⟩ ih
    refine Ev.step (fun k => by rw [laws_toIntS.l0]) ?_
    refine Ev.pos (by omega) (Ev.pos (by omega) (Ev.pos (by omega) ?_))
    rw [wrap_succ hi (by omega), Int.toNat_natCast]
    refine ih _ ⟨by simpa using h1, ?_⟩
    have hs : i < s.length := by omega
    rw [take_rd hi, ← h2, List.take_succ_eq_append_getElem (by simpa using hs), List.take_set_of_le (Nat.le_refl _)]
    simp)
  refine Ev.pos (by omega) (Ev.pos (by omega) ?_)
  rw [Int.toNat_natCast]
  exact key 0 _ (by omega) ⟨by simp, rfl⟩
theorem eqIntS_ev (l m : List Int) (hl : l.length ≤ 1048576) (h : l = m) : Ev (fun k => laws_eqIntS.f k l m) true := by
  subst h
  have key := range (n := l.length) (fun (_ : Unit) i k => laws_eqIntS.l0 k l l i) (fun _ _ => true) (fun _ _ => True) (by
    intro s _
    refine Ev.step (fun k => by rw [laws_eqIntS.l0]) ?_
    exact Ev.neg (by omega) (Ev.now _)) (by
    intro i s hi _ ih
    refine Ev.step (fun k => by rw [laws_eqIntS.l0]) ?_
    refine Ev.pos (by omega) (Ev.pos (by omega) (Ev.pos (by omega) (Ev.pos rfl ?_)))
    rw [wrap_succ hi (by omega)]
    exact ih s trivial)
  exact Ev.pos rfl (key 0 () (by omega) trivial)
theorem l1Own_eq (l : List Int) (hl : l.length ≤ 1048576) : spec_l1Own.f l = some l := by
  unfold spec_l1Own.f
  simp only [Option.bind_some, List.nil_append, List.length_nil]
  rw [if_pos (by omega)]
theorem ldOrder_false (jobs : List Int) (hn : jobs.length ≤ 1000) : Ev (fun k => spec_ldOrder.f k jobs false) (upFrom 0 jobs.length) := by
  have key := range (n := jobs.length) (fun (s : List Int) i k => spec_ldOrder.l0 k jobs false s jobs (jobs.length : Int) i) (fun _ _ => upFrom 0 jobs.length) (fun i s => s = upFrom 0 i) (by
    intro s hs
    refine Ev.step (fun k => by rw [spec_ldOrder.l0]) ?_
    rw [hs]
    exact Ev.neg (by omega) (Ev.now _)) (by
    intro i s hi hs ih
    have hsl : s.length = i := by rw [hs, upFrom_length]
    refine Ev.step (fun k => by rw [spec_ldOrder.l0]) ?_
    refine Ev.pos (by omega) (Ev.pos (by omega) (Ev.pos (by omega) ?_))
    refine Ev.step (fun k => by rw [spec_ldOrder.l1]) ?_
    rw [hsl, Int.toNat_natCast, List.take_of_length_le (by omega), List.drop_of_length_le (by omega), l1Own_eq s (by omega), wrap_succ hi (by omega)]
    refine Ev.neg (by decide) (Ev.pos (by omega) (Ev.pos (by omega) (Ev.some_ (Ev.pos (by omega) (Ev.some_ (Ev.some_ (Ev.pos (by simp; omega) ?_)))))))
    exact ih _ (by rw [List.append_nil, hs, upFrom_snoc, Int.zero_add]))
  exact key 0 [] (by omega) rfl
theorem ldOrder_true (jobs : List Int) (hn : jobs.length ≤ 1000) : Ev (fun k => spec_ldOrder.f k jobs true) (order jobs) := by
  have key := range (n := jobs.length) (fun (s : List Int) i k => spec_ldOrder.l0 k jobs true s jobs (jobs.length : Int) i) (fun _ _ => order jobs) (fun i s => s = orderF jobs i) (by
    intro s hs
    refine Ev.step (fun k => by rw [spec_ldOrder.l0]) ?_
    rw [hs]
    exact Ev.neg (by omega) (Ev.now _)) (by
    intro i s hi hs ih
    have hsl : s.length = i := by rw [hs, orderF_length]
    have hall := orderF_allIn jobs i
    rw [← hs] at hall
    refine Ev.step (fun k => by rw [spec_ldOrder.l0]) ?_
    refine Ev.pos (by omega) (Ev.pos (by omega) (Ev.pos (by omega) ?_))
    have place : ∀ j : Nat, j ≤ s.length → insAt s j (i : Int) = orderF jobs (i + 1) → Ev (fun k => if 0 ≤ (j : Int) then (if (j : Int) ≤ (s.length : Int) then ((spec_l1Own.f (s.take (j : Int).toNat)).bind fun t142 => (if t142.length < 17592186044416 then ((some (t142 ++ [(i : Int)] : List Int)).bind fun y145 => ((some (s.drop (j : Int).toNat : List Int)).bind fun y148 => (if y145.length + y148.length < 17592186044416 then (spec_ldOrder.l0 k jobs true (y145 ++ y148) jobs (jobs.length : Int) (wrap64 ((i : Int) + 1))) else (none)))) else (none))) else (none)) else (none)) (order jobs) := by
      intro j hj e
      rw [Int.toNat_natCast, l1Own_eq _ (by rw [List.length_take]; omega), wrap_succ hi (by omega)]
      refine Ev.pos (by omega) (Ev.pos (by omega) (Ev.some_ (Ev.pos (by rw [List.length_take]; omega) (Ev.some_ (Ev.some_ (Ev.pos (by simp only [List.length_append, List.length_take, List.length_drop, List.length_singleton]; omega) ?_))))))
      refine ih _ ?_
      rw [← e, insAt, List.append_assoc]
      rfl
    have inner : ∀ j : Nat, j ≤ s.length → insAt s (backTo jobs s (rd jobs (i : Int)) j) (i : Int) = orderF jobs (i + 1) → Ev (fun k => spec_ldOrder.l1 k jobs true s (i : Int) (rd jobs (i : Int)) (j : Int) jobs (jobs.length : Int) (i : Int)) (order jobs) := by
      intro j
      induction j with
      | zero =>
        intro hj e
        refine Ev.step (fun k => by rw [spec_ldOrder.l1]) ?_
        exact Ev.pos rfl (Ev.neg (by omega) (place 0 hj e))
      | succ j jh =>
        intro hj e
        have hq := allIn_rd hall (i := j) (by omega)
        have e1 : wrap64 (((j + 1 : Nat) : Int) - 1) = (j : Int) := by rw [wrap_id (by omega) (by omega)]; omega
        refine Ev.step (fun k => by rw [spec_ldOrder.l1]) ?_
        rw [e1]
        refine Ev.pos rfl (Ev.pos (by omega) (Ev.pos (by omega) (Ev.pos (by omega) (Ev.pos (by omega) (Ev.pos (by omega) ?_)))))
        simp only [backTo] at e
        by_cases hlt : rd jobs (rd s (j : Int)) < rd jobs (i : Int)
        · rw [if_pos hlt] at e
          exact Ev.pos hlt (jh (by omega) e)
        · rw [if_neg hlt] at e
          exact Ev.neg hlt (place (j + 1) hj e)
    exact inner s.length (Nat.le_refl _) (by simp only [orderF]; rw [hs]))
  exact key 0 [] (by omega) rfl
theorem l1In_eq (a b c : Int) : spec_l1In.f a b c = some (decide (b ≤ a ∧ a ≤ c)) := by
  unfold spec_l1In.f
  by_cases h : a ≥ b
  · rw [if_pos h]; simp [h]
  · rw [if_neg h]; simp [h]
theorem l1All_ev (l : List Int) (a b : Int) (hl : l.length ≤ 1048576) : Ev (fun k => spec_l1All.f k l a b) (l.all fun x => decide (a ≤ x ∧ x ≤ b)) := by
  have key := range (n := l.length) (fun (_ : Unit) i k => spec_l1All.l0 k a b l (l.length : Int) i) (fun i _ => (l.drop i).all fun x => decide (a ≤ x ∧ x ≤ b)) (fun _ _ => True) (by
    intro s _
    refine Ev.step (fun k => by rw [spec_l1All.l0]) ?_
    rw [List.drop_length]
    exact Ev.neg (by omega) (Ev.now _)) (by
    intro i s hi _ ih
    refine Ev.step (fun k => by rw [spec_l1All.l0]) ?_
    refine Ev.pos (by omega) (Ev.pos (by omega) (Ev.pos (by omega) ?_))
    rw [l1In_eq, drop_rd hi, List.all_cons]
    refine Ev.some_ ?_
    cases h : decide (a ≤ rd l (i : Int) ∧ rd l (i : Int) ≤ b) with
    | true =>
      refine Ev.pos rfl ?_
      rw [wrap_succ hi (by omega), Bool.true_and]
      exact ih () trivial
    | false => exact Ev.neg (by decide) (Ev.now _))
  exact key 0 () (by omega) trivial
theorem ldGood_ev (l : List Int) (hl : l.length ≤ 1048576) : Ev (fun k => spec_ldGood.f k l) (areJobs l) := by
  refine Ev.congr (fun k => by rw [spec_ldGood.f, l1In_eq]) ?_
  refine Ev.some_ ?_
  unfold areJobs
  by_cases h : (1 : Int) ≤ (l.length : Int) ∧ (l.length : Int) ≤ 9
  · refine Ev.pos (decide_eq_true h) ?_
    rw [decide_eq_true h, Bool.true_and]
    exact Ev.bind (l1All_ev l 1 1000 hl) (Ev.now _)
  · refine Ev.neg (by simpa using h) ?_
    rw [decide_eq_false h, Bool.false_and]
    exact Ev.now _
theorem l1Has_ev (l : List Int) (v : Int) (hl : l.length ≤ 1048576) : Ev (fun k => spec_l1Has.f k l v) (l.any fun x => decide (x = v)) := by
  have key := range (n := l.length) (fun (_ : Unit) i k => spec_l1Has.l0 k v l (l.length : Int) i) (fun i _ => (l.drop i).any fun x => decide (x = v)) (fun _ _ => True) (by
    intro s _
    refine Ev.step (fun k => by rw [spec_l1Has.l0]) ?_
    rw [List.drop_length]
    exact Ev.neg (by omega) (Ev.now _)) (by
    intro i s hi _ ih
    refine Ev.step (fun k => by rw [spec_l1Has.l0]) ?_
    refine Ev.pos (by omega) (Ev.pos (by omega) (Ev.pos (by omega) ?_))
    rw [drop_rd hi, List.any_cons]
    by_cases e : rd l (i : Int) = v
    · rw [decide_eq_true e, Bool.true_or]
      exact Ev.pos e (Ev.now _)
    · rw [decide_eq_false e, Bool.false_or, wrap_succ hi (by omega)]
      exact Ev.neg e (ih () trivial))
  exact key 0 () (by omega) trivial
/-- With the first job in machine i the others fit. -/
def Works (j : Int) (js room : List Int) (i : Nat) : Prop := ∃ h : i < room.length, j ≤ room[i] ∧ Pack js (room.set i (room[i] - j))
theorem works_iff {j : Int} {js room : List Int} : Pack (j :: js) room ↔ ∃ i, Works j js room i := by
  constructor
  · rintro ⟨room', h1, h2⟩
    obtain ⟨i, hi, h3, rfl⟩ := h1.get
    exact ⟨i, hi, h3, h2⟩
  · rintro ⟨i, hi, h3, h2⟩
    exact ⟨_, Put.at hi h3, h2⟩
theorem ldFits_ev : ∀ (js room : List Int), js.length ≤ 1000 → room.length ≤ 1048576 → allIn js 0 10000 = true → allIn room 0 1000000 = true → ∃ b : Bool, Ev (fun k => spec_ldFits.f k js room) b ∧ (b = true ↔ Pack js room) := by
  intro js
  induction js with
  | nil =>
    intro room _ _ _ _
    refine ⟨true, ?_, fun _ => trivial, fun _ => rfl⟩
    refine Ev.step (fun k => by rw [spec_ldFits.f]) ?_
    exact Ev.pos rfl (Ev.now _)
  | cons j js ih =>
    intro room hl hr hj hb
    have hj0 := allIn_iff.1 hj j List.mem_cons_self
    have hjs : allIn js 0 10000 = true := allIn_iff.2 fun x hx => allIn_iff.1 hj x (List.mem_cons_of_mem _ hx)
    rw [List.length_cons] at hl
    have key : ∀ (d i : Nat), i + d = room.length → (∀ i', i' < i → ¬ Works j js room i') → ∃ b : Bool, Ev (fun k => spec_ldFits.l0 k (j :: js) room room (room.length : Int) (i : Int)) b ∧ (b = true ↔ Pack (j :: js) room) := by
      intro d
      induction d with
      | zero =>
        intro i hi hno
        refine ⟨false, ?_, ⟨fun h => absurd h (by decide), fun h => ?_⟩⟩
        · refine Ev.step (fun k => by rw [spec_ldFits.l0]) ?_
          exact Ev.neg (by omega) (Ev.now _)
        · obtain ⟨i', hw⟩ := works_iff.1 h
          exact absurd hw (hno i' (by obtain ⟨h, _⟩ := hw; omega))
      | succ d ihd =>
        intro i hi hno
        have hlt : i < room.length := by omega
        have hri := allIn_rd hb hlt
        have hg := rd_get hlt
        have h0 : rd (j :: js) 0 = j := rfl
        have hl1 : ((j :: js).length : Int) = (js.length : Int) + 1 := by rw [List.length_cons]; omega
        by_cases c1 : rd room (i : Int) < j
        · -- no room
          obtain ⟨b, hE, hP⟩ := ihd (i + 1) (by omega) (fun i' hi' => by
            by_cases e : i' = i
            · subst e
              rintro ⟨_, h2, _⟩
              rw [← hg] at h2
              omega
            · exact hno i' (by omega))
          refine ⟨b, ?_, hP⟩
          refine Ev.step (fun k => by rw [spec_ldFits.l0]) ?_
          refine Ev.pos (by omega) (Ev.pos (by omega) (Ev.pos (by omega) (Ev.pos (by omega) ?_)))
          rw [h0]
          refine Ev.pos c1 ?_
          refine Ev.step (fun k => by rw [spec_ldFits.j1]) ?_
          rw [wrap_succ hlt (by omega)]
          exact Ev.pos rfl hE
        · by_cases c2 : ((room.take i).any fun x => decide (x = rd room (i : Int))) = true
          · -- a machine before it has as much
            obtain ⟨b, hE, hP⟩ := ihd (i + 1) (by omega) (fun i' hi' => by
              by_cases e : i' = i
              · subst e
                rintro ⟨h1, h2, h3⟩
                obtain ⟨x, hx, hxe⟩ := List.any_eq_true.1 c2
                have hxe := of_decide_eq_true hxe
                obtain ⟨p, hp, rfl⟩ := List.getElem_of_mem hx
                rw [List.length_take] at hp
                rw [List.getElem_take, hg] at hxe
                have hpl : p < room.length := by omega
                refine hno p (by omega) ⟨hpl, by omega, ?_⟩
                have := h3.perm_room (set_perm h1 hpl hxe.symm (room[i'] - j))
                rw [← hxe] at this
                exact this
              · exact hno i' (by omega))
            refine ⟨b, ?_, hP⟩
            refine Ev.step (fun k => by rw [spec_ldFits.l0]) ?_
            refine Ev.pos (by omega) (Ev.pos (by omega) (Ev.pos (by omega) (Ev.pos (by omega) ?_)))
            rw [h0]
            refine Ev.neg c1 (Ev.pos (by omega) ?_)
            rw [Int.toNat_natCast]
            refine Ev.bind (l1Has_ev (room.take i) (rd room (i : Int)) (by rw [List.length_take]; omega)) ?_
            rw [c2]
            refine Ev.step (fun k => by rw [spec_ldFits.j1]) ?_
            rw [wrap_succ hlt (by omega)]
            exact Ev.pos rfl hE
          · -- it is tried
            have c2 : ((room.take i).any fun x => decide (x = rd room (i : Int))) = false := Bool.eq_false_iff.2 c2
            obtain ⟨b', hE', hP'⟩ := ih (room.set i (rd room (i : Int) - j)) (by omega) (by rw [List.length_set]; exact hr) hjs (allIn_set hb (by omega) (by omega) i)
            have tried : ∀ r, Ev (fun k => if b' = true then some true else spec_ldFits.l0 k (j :: js) room room (room.length : Int) ((i + 1 : Nat) : Int)) r → Ev (fun k => spec_ldFits.l0 k (j :: js) room room (room.length : Int) (i : Int)) r := by
              intro r h
              refine Ev.step (fun k => by rw [spec_ldFits.l0]) ?_
              refine Ev.pos (by omega) (Ev.pos (by omega) (Ev.pos (by omega) (Ev.pos (by omega) ?_)))
              rw [h0]
              refine Ev.neg c1 (Ev.pos (by omega) ?_)
              rw [Int.toNat_natCast]
              refine Ev.bind (l1Has_ev (room.take i) (rd room (i : Int)) (by rw [List.length_take]; omega)) ?_
              rw [c2]
              refine Ev.step (fun k => by rw [spec_ldFits.j1]) ?_
              refine Ev.neg (by decide) (Ev.bind (Ev.const (l1Own_eq room hr)) (Ev.pos (by omega) (Ev.pos (by omega) (Ev.pos (by omega) (Ev.pos (by omega) ?_)))))
              rw [h0, Int.toNat_natCast, wrap_id (by omega) (by omega), wrap_succ hlt (by omega)]
              exact Ev.bind hE' h
            cases b' with
            | true =>
              refine ⟨true, tried true (Ev.pos rfl (Ev.now _)), fun _ => works_iff.2 ⟨i, hlt, by omega, ?_⟩, fun _ => rfl⟩
              rw [← hg]
              exact hP'.1 rfl
            | false =>
              obtain ⟨b, hE, hP⟩ := ihd (i + 1) (by omega) (fun i' hi' => by
                by_cases e : i' = i
                · subst e
                  rintro ⟨_, h2, h3⟩
                  rw [← hg] at h3
                  exact absurd (hP'.2 h3) (by decide)
                · exact hno i' (by omega))
              exact ⟨b, tried b (Ev.neg (by decide) hE), hP⟩
    obtain ⟨b, hE, hP⟩ := key room.length 0 (by omega) (fun i' h => by omega)
    refine ⟨b, ?_, hP⟩
    refine Ev.step (fun k => by rw [spec_ldFits.f]) ?_
    exact Ev.neg (by rw [List.length_cons]; omega) hE
theorem sMachines_l1 (E : Int) (hE : 0 ≤ E ∧ E ≤ 10000) (js : List Int) (hl : js.length ≤ 1000) (hj : allIn js 0 10000 = true) (need : Nat) (hn : need ≤ 1000) (h1 : Pack js (List.replicate need E)) (h2 : ∀ k, k < need → ¬ Pack js (List.replicate k E)) :
    ∀ d m : Nat, m + 1 + d = need → Ev (fun k => spec_MachinesFor.l1 k E js (List.replicate m E)) ((need : Int), true) := by
  intro d
  induction d with
  | zero =>
    intro m hm
    obtain ⟨b, hb, hp⟩ := ldFits_ev js (List.replicate (m + 1) E) hl (by simp; omega) hj (allIn_rep _ (by omega) (by omega))
    refine Ev.step (fun k => by rw [spec_MachinesFor.l1]) ?_
    refine Ev.pos (by simp; omega) (Ev.some_ ?_)
    rw [← List.replicate_succ']
    refine Ev.bind hb ?_
    rw [hp.2 (by rw [show m + 1 = need from by omega]; exact h1)]
    refine Ev.pos rfl ?_
    rw [List.length_replicate, show m + 1 = need from by omega]
    exact Ev.now _
  | succ d ih =>
    intro m hm
    obtain ⟨b, hb, hp⟩ := ldFits_ev js (List.replicate (m + 1) E) hl (by simp; omega) hj (allIn_rep _ (by omega) (by omega))
    refine Ev.step (fun k => by rw [spec_MachinesFor.l1]) ?_
    refine Ev.pos (by simp; omega) (Ev.some_ ?_)
    rw [← List.replicate_succ']
    refine Ev.bind hb ?_
    have hf : b = false := by
      cases b with
      | false => rfl
      | true => exact absurd (hp.1 rfl) (h2 (m + 1) (by omega))
    rw [hf]
    exact Ev.neg (by decide) (ih (m + 1) (by omega))
theorem sMachines_l0 (jobs : List Int) (E : Int) (r : Int × Bool) (ord : List Int) (ho : ∀ x ∈ ord, 0 ≤ x ∧ x < (jobs.length : Int)) (hl : ord.length ≤ 1000) (h : Ev (fun k => spec_MachinesFor.l1 k E (ord.map (rd jobs)) []) r) :
    ∀ d i : Nat, i + d = ord.length → Ev (fun k => spec_MachinesFor.l0 k jobs E ((ord.take i).map (rd jobs)) ord (ord.length : Int) (i : Int)) r := by
  intro d
  induction d with
  | zero =>
    intro i hi
    refine Ev.step (fun k => by rw [spec_MachinesFor.l0]) ?_
    rw [List.take_of_length_le (by omega)]
    exact Ev.neg (by omega) h
  | succ d ih =>
    intro i hi
    have hlt : i < ord.length := by omega
    have hm := ho _ (rd_mem hlt)
    refine Ev.step (fun k => by rw [spec_MachinesFor.l0]) ?_
    refine Ev.pos (by omega) (Ev.pos (by omega) (Ev.pos (by omega) (Ev.pos (by omega) (Ev.pos (by omega) (Ev.pos (by rw [List.length_map, List.length_take]; omega) ?_)))))
    rw [wrap_succ hlt (by omega)]
    have := ih (i + 1) (by omega)
    rw [take_rd hlt, List.map_append] at this
    exact this
theorem max_ev (l : List Int) (h : l ≠ []) (hl : l.length ≤ 1048576) : Ev (fun k => slices_Max_int_int.f k l) (lmax l) := by
  have hp : 1 ≤ l.length := List.length_pos_iff.2 h
  have key := range (n := l.length) (fun (s : Int) i k => slices_Max_int_int.l0 k l s i) (fun i s => lmaxF s (l.drop i)) (fun _ _ => True) (by
    intro s _
    refine Ev.step (fun k => by rw [slices_Max_int_int.l0]) ?_
    rw [List.drop_length]
    exact Ev.neg (by omega) (Ev.now _)) (by
    intro i s hi _ ih
    refine Ev.step (fun k => by rw [slices_Max_int_int.l0]) ?_
    refine Ev.pos (by omega) (Ev.pos (by omega) ?_)
    rw [wrap_succ hi (by omega), mx_eq, drop_rd hi]
    exact ih _ trivial)
  refine Ev.neg (by omega) (Ev.pos (by omega) ?_)
  exact key 1 _ hp trivial
theorem within_eq (a b c : Int) : impl_within.f a b c = some (decide (b ≤ a ∧ a ≤ c)) := by
  unfold impl_within.f
  by_cases h : a ≥ b
  · rw [if_pos h]; simp [h]
  · rw [if_neg h]; simp [h]
theorem areIn_eq (l : List Int) (a b : Int) : impl_areIn.f l a b = some (l.all fun x => decide (a ≤ x ∧ x ≤ b)) := rfl
theorem areJobs_eq (l : List Int) : impl_AreJobs.f l = some (areJobs l) := by
  unfold impl_AreJobs.f areJobs
  rw [within_eq, Option.bind_some]
  by_cases h : (1 : Int) ≤ (l.length : Int) ∧ (l.length : Int) ≤ 9
  · rw [if_pos (decide_eq_true h), decide_eq_true h, Bool.true_and]
    rfl
  · rw [if_neg (by simpa using h), decide_eq_false h, Bool.false_and]
theorem wrapk (x : Nat) (h : x < 9223372036854775808) : IntKind.i64.wrap (x : Int) = (x : Int) := by
  have hm : (x : Int) % (2 ^ IntKind.i64.bits : Int) = (x : Int) := Int.emod_eq_of_lt (by omega) (by show (x : Int) < 2 ^ 64; omega)
  have hs : ¬ (x : Int) ≥ (2 ^ (IntKind.i64.bits - 1) : Int) := by
    show ¬ (x : Int) ≥ (2 ^ 63 : Int)
    omega
  unfold IntKind.wrap
  simp only [hm, decide_eq_false hs, Bool.and_false]
  exact if_neg (by decide)
theorem bits_and (a b : Nat) (ha : a < 9223372036854775808) (hb : b < 9223372036854775808) : Go.bits .and .i64 (a : Int) (b : Int) = ((a &&& b : Nat) : Int) := by
  have e1 : BitVec.ofInt IntKind.i64.bits (a : Int) = BitVec.ofNat 64 a := BitVec.ofInt_natCast 64 a
  have e2 : BitVec.ofInt IntKind.i64.bits (b : Int) = BitVec.ofNat 64 b := BitVec.ofInt_natCast 64 b
  have e3 : (BitVec.ofNat 64 a &&& BitVec.ofNat 64 b).toNat = a &&& b := by
    rw [BitVec.toNat_and, BitVec.toNat_ofNat, BitVec.toNat_ofNat, Nat.mod_eq_of_lt (by omega), Nat.mod_eq_of_lt (by omega)]
  have hle : a &&& b ≤ a := Nat.and_le_left
  unfold Go.bits
  simp only [e1, e2]
  have := wrapk (a &&& b) (by omega)
  rw [← this]
  exact congrArg (fun z : Nat => IntKind.i64.wrap (z : Int)) e3
theorem bits_andNot {n T S : Nat} (h : SubN n T S) (hn : n ≤ 64) (hS : S < 9223372036854775808) : Go.bits .andNot .i64 (S : Int) (T : Int) = ((S - T : Nat) : Int) := by
  have hle := h.le
  have e1 : BitVec.ofInt IntKind.i64.bits (S : Int) = BitVec.ofNat 64 S := BitVec.ofInt_natCast 64 S
  have e2 : BitVec.ofInt IntKind.i64.bits (T : Int) = BitVec.ofNat 64 T := BitVec.ofInt_natCast 64 T
  have e3 : (BitVec.ofNat 64 S &&& ~~~ BitVec.ofNat 64 T).toNat = S - T := by
    rw [BitVec.toNat_and, BitVec.toNat_not, BitVec.toNat_ofNat, BitVec.toNat_ofNat, Nat.mod_eq_of_lt (by omega), Nat.mod_eq_of_lt (by omega)]
    exact andNot_sub 64 h hn (by omega)
  unfold Go.bits
  simp only [e1, e2]
  have := wrapk (S - T) (by omega)
  rw [← this]
  exact congrArg (fun z : Nat => IntKind.i64.wrap (z : Int)) e3
theorem shr_nat (P i : Nat) (hi : i ≤ 64) : shr .i64 (P : Int) (i : Int) = ((P / 2 ^ i : Nat) : Int) := by
  unfold shr
  rw [Int.toNat_natCast, Nat.min_eq_left (show i ≤ IntKind.i64.bits from hi)]
  norm_cast
theorem bit_test (P i : Nat) (hi : i ≤ 64) (hP : P < 9223372036854775808) : Go.bits .and .i64 (shr .i64 (P : Int) (i : Int)) 1 = ((P / 2 ^ i % 2 : Nat) : Int) := by
  rw [shr_nat P i hi]
  have h1 : P / 2 ^ i ≤ P := Nat.div_le_self _ _
  have := bits_and (P / 2 ^ i) 1 (by omega) (by omega)
  rw [Nat.and_one_is_mod] at this
  exact this
theorem sumS_bound (E : Int) : ∀ (l : List Int) (T : Nat), (∀ x ∈ l, 0 ≤ x ∧ x ≤ E) → sumS T l ≤ E * l.length
  | [], _, _ => by simp [sumS]
  | j :: l, T, h => by
    have h1 := h j List.mem_cons_self
    have h2 := sumS_bound E l (T / 2) (fun x hx => h x (List.mem_cons_of_mem _ hx))
    unfold sumS
    rw [List.length_cons]
    have : E * ((l.length + 1 : Nat) : Int) = E * (l.length : Int) + E := by rw [Int.natCast_add, Int.mul_add]; simp
    split <;> omega
section
variable {jobs : List Int} {E : Int} {r : Int × Bool}
theorem iM_l2 (hn : jobs.length ≤ 9) (hj : ∀ x ∈ jobs, 0 ≤ x ∧ x ≤ 1000) (f : List Int) (S P : Nat) (hP : P < 1000000) :
    ∀ (d i : Nat) (acc : Int), i + d = jobs.length → 0 ≤ acc → acc ≤ 1000 * i → Ev (fun k => impl_MachinesFor.l2 k jobs E f (S : Int) (P : Int) (acc + sumS (P / 2 ^ i) (jobs.drop i)) jobs (jobs.length : Int) (jobs.length : Int)) r → Ev (fun k => impl_MachinesFor.l2 k jobs E f (S : Int) (P : Int) acc jobs (jobs.length : Int) (i : Int)) r := by
  intro d
  induction d with
  | zero =>
    intro i acc hi h0 h1 h
    obtain rfl : i = jobs.length := by omega
    rw [List.drop_length] at h
    unfold sumS at h
    rwa [Int.add_zero] at h
  | succ d ih =>
    intro i acc hi h0 h1 h
    have hlt : i < jobs.length := by omega
    have hx := hj _ (rd_mem hlt)
    refine Ev.step (fun k => by rw [impl_MachinesFor.l2]) ?_
    refine Ev.pos (by omega) (Ev.pos (by omega) (Ev.pos (by omega) ?_))
    rw [bit_test P i (by omega) (by omega), wrap_succ hlt (by omega)]
    rw [drop_rd hlt] at h
    unfold sumS at h
    rw [Nat.div_div_eq_div_mul, ← Nat.pow_succ] at h
    by_cases c : P / 2 ^ i % 2 = 1
    · rw [if_pos c] at h
      refine Ev.pos (by omega) ?_
      rw [wrap_id (by omega) (by omega)]
      refine ih (i + 1) _ (by omega) (by omega) (by omega) ?_
      rwa [Int.add_assoc]
    · rw [if_neg c] at h
      refine Ev.neg (by omega) ?_
      refine ih (i + 1) _ (by omega) h0 (by omega) ?_
      rwa [Int.zero_add] at h
def Good (jobs : List Int) (E : Int) (S : Nat) (f : List Int) : Prop := f.length = 2 ^ jobs.length ∧ ∀ S', S' < S → ∃ v : Nat, rd f (S' : Int) = (v : Int) ∧ Need jobs E v S'
theorem rd_set_at {l : List Int} {i : Nat} {v : Int} (h : i < l.length) : rd (l.set i v) (i : Int) = v := by
  rw [rd_get (by rw [List.length_set]; exact h), List.getElem_set_self]
theorem rd_set_off {l : List Int} {i k : Nat} {v : Int} (h : k < l.length) (e : k ≠ i) : rd (l.set i v) (k : Int) = rd l (k : Int) := by
  rw [rd_get (by rw [List.length_set]; exact h), rd_get h, List.getElem_set_ne (by omega)]
theorem Good.set {S : Nat} {f : List Int} (h : Good jobs E S f) (hS : S ≤ f.length) (v : Int) : Good jobs E S (f.set S v) := by
  refine ⟨by rw [List.length_set]; exact h.1, fun S' hS' => ?_⟩
  rw [rd_set_off (by omega) (by omega)]
  exact h.2 S' hS'
theorem iM_l1 (hn : jobs.length ≤ 9) (hj : ∀ x ∈ jobs, 0 ≤ x ∧ x ≤ 1000) (hE : 0 ≤ E ∧ E ≤ 10000) (hjE : ∀ x ∈ jobs, x ≤ E) (S : Nat) (hS0 : S ≠ 0) (hS : S < 2 ^ jobs.length) (hcont : ∀ f', Good jobs E (S + 1) f' → Ev (fun k => impl_MachinesFor.l0 k jobs E f' ((S + 1 : Nat) : Int)) r) :
    ∀ (P : Nat) (f : List Int) (v : Nat), SubN jobs.length P S → Good jobs E S f → rd f (S : Int) = (v : Int) → v ≤ jobs.length → PackS jobs E v S → (∀ T u, SubN jobs.length T S → P < T → sumS T jobs ≤ E → Need jobs E u (S - T) → v ≤ u + 1) → Ev (fun k => impl_MachinesFor.l1 k jobs E f (S : Int) (P : Int)) r := by
  have hpow : 2 ^ jobs.length ≤ 512 := Nat.pow_le_pow_right (n := 2) (by omega) hn
  have h0 : ∀ x ∈ jobs, 0 ≤ x := fun x hx => (hj x hx).1
  intro P
  induction P using Nat.strongRecOn with
  | _ P ih =>
    intro f v hP hG hv hvn hpk hall
    have hPS := hP.le
    refine Ev.step (fun k => by rw [impl_MachinesFor.l1]) ?_
    by_cases hz : P = 0
    · subst hz
      refine Ev.neg (by omega) ?_
      rw [wrap_id (by omega) (by omega), show (S : Int) + 1 = ((S + 1 : Nat) : Int) from by omega]
      refine hcont f ⟨hG.1, fun S' hS' => ?_⟩
      by_cases e : S' = S
      · subst e
        refine ⟨v, hv, ?_⟩
        obtain ⟨w, hw, hN⟩ := need_ex v hpk
        obtain ⟨w', rfl⟩ : ∃ w', w = w' + 1 := ⟨w - 1, by
          have : w ≠ 0 := fun e => by
            subst e
            exact hS0 ((packS_zero hS).1 hN.1)
          omega⟩
        obtain ⟨T, t1, t2, t3, t4⟩ := hN.part h0 hE.1
        have := hall T w' t1 (by omega) t3 t4
        rwa [show v = w' + 1 from by omega]
      · exact hG.2 S' (by omega)
    · refine Ev.pos (by omega) ?_
      refine iM_l2 hn hj f S P (by omega) jobs.length 0 0 (by omega) (by omega) (by omega) ?_
      rw [Nat.pow_zero, Nat.div_one, List.drop_zero, Int.zero_add]
      refine Ev.step (fun k => by rw [impl_MachinesFor.l2]) ?_
      refine Ev.neg (by omega) ?_
      obtain ⟨a1, a2, a3⟩ := and_sub hP (by omega)
      have hand : Go.bits .and .i64 (wrap64 ((P : Int) - 1)) (S : Int) = (((P - 1) &&& S : Nat) : Int) := by
        rw [wrap_id (by omega) (by omega), show (P : Int) - 1 = ((P - 1 : Nat) : Int) from by omega]
        exact bits_and _ _ (by omega) (by omega)
      rw [hand]
      by_cases hload : sumS P jobs ≤ E
      · refine Ev.pos hload ?_
        rw [bits_andNot hP (by omega) (by omega)]
        obtain ⟨u, hu, hNu⟩ := hG.2 (S - P) (by omega)
        have hlen := hG.1
        refine Ev.pos (by omega) (Ev.pos (by omega) (Ev.pos (by omega) (Ev.pos (by omega) ?_)))
        rw [hu, hv, mn_eq, Int.toNat_natCast]
        have hun : u ≤ jobs.length := hNu.le (packS_all hjE _)
        rw [wrap_id (by omega) (by omega)]
        have hmin : min (v : Int) ((u : Int) + 1) = ((min v (u + 1) : Nat) : Int) := by omega
        rw [hmin]
        refine ih _ a2 _ (min v (u + 1)) a1 (hG.set (by omega) _) (rd_set_at (by omega)) (by omega) ?_ ?_
        · by_cases c : v ≤ u + 1
          · rwa [Nat.min_eq_left c]
          · rw [Nat.min_eq_right (by omega)]
            exact (packS_succ h0 hE.1 u S).2 ⟨P, hP, hload, hNu.1⟩
        · intro T u' t1 t2 t3 t4
          by_cases c : T = P
          · subst c
            have := hNu.le t4.1
            omega
          · have := hall T u' t1 (by
              by_cases c2 : T < P
              · have := a3 T t1 c2
                omega
              · omega) t3 t4
            omega
      · refine Ev.neg hload ?_
        refine ih _ a2 f v a1 hG hv hvn hpk ?_
        intro T u' t1 t2 t3 t4
        by_cases c : T = P
        · subst c; exact absurd t3 hload
        · exact hall T u' t1 (by
            by_cases c2 : T < P
            · have := a3 T t1 c2
              omega
            · omega) t3 t4
theorem iM_l0 (hn1 : 1 ≤ jobs.length) (hn : jobs.length ≤ 9) (hj : ∀ x ∈ jobs, 0 ≤ x ∧ x ≤ 1000) (hE : 0 ≤ E ∧ E ≤ 10000) (hjE : ∀ x ∈ jobs, x ≤ E) (need : Nat) (hN : Need jobs E need (2 ^ jobs.length - 1)) :
    ∀ (d S : Nat) (f : List Int), S + d = 2 ^ jobs.length → 1 ≤ S → Good jobs E S f → Ev (fun k => impl_MachinesFor.l0 k jobs E f (S : Int)) ((need : Int), true) := by
  have hpow : 2 ^ jobs.length ≤ 512 := Nat.pow_le_pow_right (n := 2) (by omega) hn
  have hpos : 1 ≤ 2 ^ jobs.length := Nat.pow_pos (by decide)
  intro d
  induction d with
  | zero =>
    intro S f hS h1 hG
    have hlen := hG.1
    refine Ev.step (fun k => by rw [impl_MachinesFor.l0]) ?_
    refine Ev.neg (by omega) ?_
    rw [wrap_id (by omega) (by omega), show (f.length : Int) - 1 = ((2 ^ jobs.length - 1 : Nat) : Int) from by omega]
    refine Ev.pos (by omega) (Ev.pos (by omega) ?_)
    obtain ⟨v, hv, hNv⟩ := hG.2 (2 ^ jobs.length - 1) (by omega)
    have e1 := hNv.le hN.1
    have e2 := hN.le hNv.1
    rw [hv, show v = need from by omega]
    exact Ev.now _
  | succ d ih =>
    intro S f hS h1 hG
    have hlen := hG.1
    refine Ev.step (fun k => by rw [impl_MachinesFor.l0]) ?_
    refine Ev.pos (by omega) (Ev.pos (by omega) ?_)
    rw [Int.toNat_natCast]
    exact iM_l1 hn hj hE hjE S (by omega) (by omega) (fun f' hG' => ih (S + 1) f' (by omega) (by omega) hG') S _ jobs.length (subN_self (by omega)) (hG.set (by omega) _) (rd_set_at (by omega)) (Nat.le_refl _) (packS_all hjE S) (fun T u t1 t2 _ _ => by have := t1.le; omega)
end
theorem all_max {l : List Int} {a : Int} (hne : l ≠ []) (h : allIn l 1 1000 = true) : (l.all fun x => decide (1 ≤ x ∧ x ≤ a)) = !(decide (lmax l > a)) := by
  by_cases c : lmax l > a
  · rw [decide_eq_true c]
    cases hh : l.all fun x => decide (1 ≤ x ∧ x ≤ a) with
    | false => rfl
    | true =>
      have := of_decide_eq_true (List.all_eq_true.1 hh _ (lmax_mem hne))
      omega
  · rw [decide_eq_false c]
    refine List.all_eq_true.2 fun x hx => decide_eq_true ?_
    have h1 := allIn_iff.1 h x hx
    have h2 := le_lmax hx
    omega
theorem both_MachinesFor (l : List Int) (a : Int) (hl : l.length ≤ 1048576) : ∃ w : Int × Bool, Ev (fun k => spec_MachinesFor.f k l a) w ∧ Ev (fun k => impl_MachinesFor.f k l a) w ∧ True := by
  have sno : Ev (fun k => spec_MachinesFor.j0 k l a true) (0, false) := by
    refine Ev.step (fun k => by rw [spec_MachinesFor.j0]) ?_
    exact Ev.pos rfl (Ev.now _)
  have ino : Ev (fun k => impl_MachinesFor.j0 k l a true) (0, false) := by
    refine Ev.step (fun k => by rw [impl_MachinesFor.j0]) ?_
    exact Ev.pos rfl (Ev.now _)
  cases h : areJobs l with
  | false =>
    refine ⟨(0, false), Ev.bind (ldGood_ev l hl) ?_, Ev.bind (Ev.const (areJobs_eq l)) ?_, trivial⟩
    · rw [h]; exact Ev.neg (by decide) sno
    · rw [h]; exact Ev.neg (by decide) ino
  | true =>
    obtain ⟨h1, h9, hb⟩ := areJobs_len h
    have hne : l ≠ [] := fun e => by subst e; simp at h1
    by_cases ha : 1 ≤ a ∧ a ≤ 10000
    case neg =>
      refine ⟨(0, false), Ev.bind (ldGood_ev l hl) ?_, Ev.bind (Ev.const (areJobs_eq l)) ?_, trivial⟩
      · rw [h, l1In_eq, decide_eq_false ha]; exact Ev.pos rfl (Ev.some_ (Ev.neg (by decide) sno))
      · rw [h, within_eq, decide_eq_false ha]; exact Ev.pos rfl (Ev.some_ (Ev.neg (by decide) ino))
    by_cases hm : lmax l > a
    · refine ⟨(0, false), Ev.bind (ldGood_ev l hl) ?_, Ev.bind (Ev.const (areJobs_eq l)) ?_, trivial⟩
      · rw [h, l1In_eq, decide_eq_true ha]
        refine Ev.pos rfl (Ev.some_ (Ev.pos rfl (Ev.bind (l1All_ev l 1 a hl) ?_)))
        rw [all_max hne hb, decide_eq_true hm]
        exact sno
      · rw [h, within_eq, decide_eq_true ha]
        refine Ev.pos rfl (Ev.some_ (Ev.pos rfl (Ev.bind (max_ev l hne hl) ?_)))
        rw [decide_eq_true hm]
        exact ino
    · have hj : ∀ x ∈ l, 0 ≤ x ∧ x ≤ 1000 := fun x hx => by have := allIn_iff.1 hb x hx; omega
      have hjE : ∀ x ∈ l, x ≤ a := fun x hx => by have := le_lmax hx; omega
      have hpow : 2 ^ l.length ≤ 512 := Nat.pow_le_pow_right (n := 2) (by omega) h9
      have hpos : 1 ≤ 2 ^ l.length := Nat.pow_pos (by decide)
      obtain ⟨need, hle, hN⟩ := need_ex _ (packS_all hjE (2 ^ l.length - 1))
      have hn0 : need ≠ 0 := fun e => by
        subst e
        have := (packS_zero (E := a) (show 2 ^ l.length - 1 < 2 ^ l.length by omega)).1 hN.1
        have : 2 ^ 1 ≤ 2 ^ l.length := Nat.pow_le_pow_right (n := 2) (by omega) h1
        omega
      have hvp := vsort_perm l
      have h0v : ∀ x ∈ vsort l, 0 ≤ x := fun x hx => (hj x (hvp.mem_iff.1 hx)).1
      have pk : ∀ k, Pack (vsort l) (List.replicate k a) ↔ PackS l a k (2 ^ l.length - 1) := fun k => by
        unfold PackS
        rw [subL_full]
        exact ⟨fun hp => hp.perm_jobs hvp h0v, fun hp => hp.perm_jobs hvp.symm (fun x hx => (hj x hx).1)⟩
      refine ⟨((need : Int), true), Ev.bind (ldGood_ev l hl) ?_, Ev.bind (Ev.const (areJobs_eq l)) ?_, trivial⟩
      · rw [h, l1In_eq, decide_eq_true ha]
        refine Ev.pos rfl (Ev.some_ (Ev.pos rfl (Ev.bind (l1All_ev l 1 a hl) ?_)))
        rw [all_max hne hb, decide_eq_false hm]
        refine Ev.step (fun k => by rw [spec_MachinesFor.j0]) ?_
        refine Ev.neg (by decide) (Ev.bind (ldOrder_true l (by omega)) ?_)
        have hol : (order l).length = l.length := orderF_length l l.length
        refine sMachines_l0 l a _ (order l) (fun x hx => (orderF_mem l l.length x).1 hx) (by omega) ?_ (order l).length 0 (by omega)
        rw [order_vals]
        have hvl : (vsort l).length = l.length := hvp.length_eq
        exact sMachines_l1 a (by omega) (vsort l) (by omega) (allIn_iff.2 fun x hx => by have := hj x (hvp.mem_iff.1 hx); omega) need (by omega) ((pk need).2 hN.1) (fun k hk hp => hN.2 k hk ((pk k).1 hp)) (need - 1) 0 (by omega)
      · rw [h, within_eq, decide_eq_true ha]
        refine Ev.pos rfl (Ev.some_ (Ev.pos rfl (Ev.bind (max_ev l hne hl) ?_)))
        rw [decide_eq_false hm]
        refine Ev.step (fun k => by rw [impl_MachinesFor.j0]) ?_
        have hshl : shl .i64 1 (l.length : Int) = ((2 ^ l.length : Nat) : Int) := by
          have : l.length = 1 ∨ l.length = 2 ∨ l.length = 3 ∨ l.length = 4 ∨ l.length = 5 ∨ l.length = 6 ∨ l.length = 7 ∨ l.length = 8 ∨ l.length = 9 := by omega
          rcases this with e | e | e | e | e | e | e | e | e <;> (rw [e]; decide)
        rw [hshl, Int.toNat_natCast]
        refine Ev.neg (by decide) (Ev.pos (by omega) (Ev.pos (by omega) ?_))
        refine iM_l0 h1 h9 hj (by omega) hjE need hN (2 ^ l.length - 1) 1 _ (by omega) (Nat.le_refl _) ⟨by rw [List.length_replicate], fun S' hS' => ⟨0, ?_, ?_⟩⟩
        · rw [rd_get (by rw [List.length_replicate]; omega)]
          simp
        · obtain rfl : S' = 0 := by omega
          exact ⟨(packS_zero (by omega)).2 rfl, fun k' hk => by omega⟩
theorem FnExactMachinesFor : laws_FnExactMachinesFor.Pure := by
  intro l0 a1 h0_ h1_ h2_ h3_
  refine Ev.rounds ?_
  refine Ev.congr (fun k => by rw [laws_FnExactMachinesFor.f]) ?_
  by_cases hll0 : (l0.length : Int) > 1048576
  · exact Ev.pos hll0 (Ev.now _)
  refine Ev.neg hll0 ?_
  have hnl0 : l0.length ≤ 1048576 := by omega
  obtain ⟨w, hS, hI, hW⟩ := both_MachinesFor l0 a1 hnl0
  repeat first
    | (exact Ev.now _)
    | (refine Ev.bind (toIntS_ev l0 hnl0) ?_)
    | (refine Ev.bind hS ?_)
    | (refine Ev.bind hI ?_)
    | (refine Ev.bind (eqIntS_ev _ _ ?_ rfl) ?_; next => (first | assumption | exact hW | exact hW.1 | exact hW.2))
    | (refine Ev.pos ?_ ?_; next => (first | rfl | decide | omega | (dsimp only; omega) | (simp; done)))
    | (refine Ev.neg ?_ ?_; next => (first | decide | omega | (dsimp only; omega) | (simp; done)))
    | (refine Ev.step (fun k => by rw [laws_FnExactMachinesFor.j0]) ?_)

end Go.Proofs.Ytamfmfcibecckaa.Pure
