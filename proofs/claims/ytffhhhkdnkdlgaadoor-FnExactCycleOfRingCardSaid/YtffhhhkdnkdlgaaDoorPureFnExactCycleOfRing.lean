/- What is proved here: the pure statement of the law FnExactCycleOfRing: for every input the law, as the print tells it, answers true. No condition. (The row that follows from it says it of the Go program.) -/
import Derived.Test.YtffhhhkdnkdlgaaDoorPFnExactCycleOfRingx4
import Derived.Test.YtffhhhkdnkdlgaaDoorBase
import Derived.Lib.ItoaLen
set_option linter.unusedSimpArgs false
set_option linter.unusedVariables false
namespace Go.Proofs.YtffhhhkdnkdlgaaDoor.Pure
open Go.RowKit Go.Proofs.YtffhhhkdnkdlgaaDoor.PFnExactCycleOfRing Go.Proofs.YtffhhhkdnkdlgaaDoorW.PrintWords Go.Proofs.YtffhhhkdnkdlgaaDoorW.PrintLast Go.Proofs.YtffhhhkdnkdlgaaDoor.Base

theorem toIntS_ev (l : List Int) (hl : l.length ≤ 1048576) : Ev (fun k => laws_toIntS.f k l) l := by
  have key := range (n := l.length) (fun (s : List Int) i k => laws_toIntS.l0 k l s i) (fun _ _ => l) (fun i s => s.length = l.length ∧ s.take i = l.take i) (by
    intro s ⟨h1, h2⟩
    refine Ev.step (fun k => by rw [laws_toIntS.l0]) ?_
    refine Ev.neg (by omega) ?_
    rw [List.take_of_length_le (by omega), List.take_of_length_le (by omega)] at h2
    rw [h2]
    exact Ev.now _) (by
    intro i s hi ⟨h1, h2⟩ ih
    refine Ev.step (fun k => by rw [laws_toIntS.l0]) ?_
    refine Ev.pos (by omega) (Ev.pos (by omega) (Ev.pos (by omega) ?_))
    rw [wrap_succ hi (by omega), Int.toNat_natCast]
    refine ih _ ⟨by simpa using h1, ?_⟩
    have hs : i < s.length := by omega
    rw [take_rd hi, ← h2, List.take_succ_eq_append_getElem (by simpa using hs), List.take_set_of_le (Nat.le_refl _)]
    simp)
  refine Ev.pos (by omega) (Ev.pos (by omega) ?_)
  rw [Int.toNat_natCast]
  exact key 0 _ (by omega) ⟨by simp, rfl⟩
theorem l1In_eq (a b c : Int) : spec_l1In.f a b c = some (decide (b ≤ a ∧ a ≤ c)) := by
  unfold spec_l1In.f
  by_cases h : a ≥ b
  · rw [if_pos h]; simp [h]
  · rw [if_neg h]; simp [h]
theorem l1All_ev (l : List Int) (a b : Int) (hl : l.length ≤ 1048576) : Ev (fun k => spec_l1All.f k l a b) (l.all fun x => decide (a ≤ x ∧ x ≤ b)) := by
  have key := range (n := l.length) (fun (_ : Unit) i k => spec_l1All.l0 k a b l (l.length : Int) i) (fun i _ => (l.drop i).all fun x => decide (a ≤ x ∧ x ≤ b)) (fun _ _ => True) (by
    intro s _
    refine Ev.step (fun k => by rw [spec_l1All.l0]) ?_
    rw [List.drop_length]
    exact Ev.neg (by omega) (Ev.now _)) (by
    intro i s hi _ ih
    refine Ev.step (fun k => by rw [spec_l1All.l0]) ?_
    refine Ev.pos (by omega) (Ev.pos (by omega) (Ev.pos (by omega) ?_))
    rw [l1In_eq, drop_rd hi, List.all_cons]
    refine Ev.some_ ?_
    cases h : decide (a ≤ rd l (i : Int) ∧ rd l (i : Int) ≤ b) with
    | true =>
      refine Ev.pos rfl ?_
      rw [wrap_succ hi (by omega), Bool.true_and]
      exact ih () trivial
    | false => exact Ev.neg (by decide) (Ev.now _))
  exact key 0 () (by omega) trivial
theorem riGood_ev (l : List Int) (hl : l.length ≤ 1048576) : Ev (fun k => spec_riGood.f k l) (isRing l) := by
  refine Ev.congr (fun k => by rw [spec_riGood.f, l1In_eq]) ?_
  refine Ev.some_ ?_
  unfold isRing
  by_cases h : (2 : Int) ≤ (l.length : Int) ∧ (l.length : Int) ≤ 10
  · refine Ev.pos (decide_eq_true h) ?_
    rw [decide_eq_true h, Bool.true_and]
    exact Ev.bind (l1All_ev l 0 1000 hl) (Ev.now _)
  · refine Ev.neg (by simpa using h) ?_
    rw [decide_eq_false h, Bool.false_and]
    exact Ev.now _
theorem l1Own_eq (l : List Int) (hl : l.length ≤ 1048576) : spec_l1Own.f l = some l := by
  unfold spec_l1Own.f
  simp only [Option.bind_some, List.nil_append, List.length_nil]
  rw [if_pos (by omega)]
theorem l1Most_eq (a b : Int) : spec_l1Most.f a b = some (max a b) := by
  unfold spec_l1Most.f
  split <;> congr 1 <;> omega
theorem l1Abs_eq {x : Int} (h1 : -1000000 ≤ x) (h2 : x ≤ 1000000) : spec_l1Abs.f x = some (absd x) := by
  unfold spec_l1Abs.f
  rw [wrap_id (by omega) (by omega), l1Most_eq]
  rfl
theorem tmod_succ {i n : Nat} (hi : i < n) (hn : n ≤ 1048576) : Int.tmod (wrap64 ((i : Int) + 1)) (n : Int) = (((i + 1) % n : Nat) : Int) := by
  rw [wrap_succ hi (by omega)]
  exact (Int.ofNat_tmod _ _).symm
theorem riStep_ev (l : List Int) (hl : l.length ≤ 1048576) (hb : allIn l 0 1000000 = true) : Ev (fun k => spec_riStep.f k l) (ringStep l) := by
  have key := range (n := l.length) (fun (s : List Int) i k => spec_riStep.l0 k l s l (l.length : Int) i) (fun _ _ => ringStep l) (fun i s => s = (List.range i).map (stepAt l)) (by
    intro s hs
    refine Ev.step (fun k => by rw [spec_riStep.l0]) ?_
    refine Ev.neg (by omega) ?_
    rw [hs]
    exact Ev.now _) (by
    intro i s hi hs ih
    refine Ev.step (fun k => by rw [spec_riStep.l0]) ?_
    have hsl : s.length = i := by rw [hs]; simp
    have h1 := allIn_rd hb hi
    have hm := Nat.mod_lt (i + 1) (Nat.lt_of_le_of_lt (Nat.zero_le i) hi)
    have h2 := allIn_rd hb hm
    rw [tmod_succ hi hl]
    refine Ev.pos (by omega) (Ev.pos (by omega) (Ev.pos (by omega) (Ev.neg (by omega) (Ev.pos (by omega) (Ev.pos (by omega) ?_)))))
    rw [wrap_id (x := rd l (i : Int) - _) (by omega) (by omega), l1Abs_eq (by omega) (by omega)]
    refine Ev.some_ (Ev.pos (by omega) ?_)
    rw [wrap_succ hi (by omega)]
    refine ih _ ?_
    rw [List.range_succ, List.map_append, hs]
    rfl)
  exact key 0 [] (by omega) rfl
theorem riPlay_l0 (n : Nat) : n ≤ 1000000000000 → ∀ l : List Int, l.length ≤ 1048576 → allIn l 0 1000000 = true → Ev (fun k => spec_riPlay.l0 k (n : Int) l) (play n l) := by
  induction n with
  | zero =>
    intro _ l hl hb
    refine Ev.step (fun k => by rw [spec_riPlay.l0]) ?_
    exact Ev.neg (by omega) (Ev.now _)
  | succ n ih =>
    intro hn l hl hb
    refine Ev.step (fun k => by rw [spec_riPlay.l0]) ?_
    refine Ev.pos (by omega) (Ev.bind (riStep_ev l hl hb) ?_)
    rw [wrap_id (by omega) (by omega), show ((n + 1 : Nat) : Int) - 1 = (n : Int) from by omega, play_succ']
    exact ih (by omega) _ (by rw [ringStep_length]; exact hl) (ringStep_allIn hb)
theorem riPlay_ev (l : List Int) (n : Nat) (hn : n ≤ 1000000000000) (hl : l.length ≤ 1048576) (hb : allIn l 0 1000000 = true) : Ev (fun k => spec_riPlay.f k l (n : Int)) (play n l) := by
  refine Ev.bind (Ev.const (l1Own_eq l hl)) ?_
  exact riPlay_l0 n hn l hl hb
theorem l1Same_ev (l m : List Int) (hl : l.length ≤ 1048576) (h : l.length = m.length) : Ev (fun k => spec_l1Same.f k l m) (decide (l = m)) := by
  have key := range (n := l.length) (fun (_ : Unit) i k => spec_l1Same.l0 k l m (l.length : Int) i) (fun i _ => decide (l.drop i = m.drop i)) (fun _ _ => True) (by
    intro s _
    refine Ev.step (fun k => by rw [spec_l1Same.l0]) ?_
    refine Ev.neg (by omega) ?_
    rw [List.drop_length, h, List.drop_length]
    exact Ev.now _) (by
    intro i s hi _ ih
    refine Ev.step (fun k => by rw [spec_l1Same.l0]) ?_
    refine Ev.pos (by omega) (Ev.pos (by omega) (Ev.pos (by omega) (Ev.pos (by omega) ?_)))
    by_cases e : rd l (i : Int) = rd m (i : Int)
    · refine Ev.pos e ?_
      have : decide (l.drop i = m.drop i) = decide (l.drop (i + 1) = m.drop (i + 1)) := by
        rw [drop_rd hi, drop_rd (l := m) (by omega), e]
        simp
      rw [this, wrap_succ hi (by omega)]
      exact ih () trivial
    · refine Ev.neg e ?_
      have : decide (l.drop i = m.drop i) = false := by
        rw [drop_rd hi, drop_rd (l := m) (by omega)]
        simp [e]
      rw [this]
      exact Ev.now _)
  refine Ev.pos (by omega) ?_
  have := key 0 () (by omega) trivial
  simpa using this
section
variable {l : List Int} {m p : Nat}
theorem riCycle_l2 (hr : isRing l = true) (hc : Cyc (fun n => play n l) m p) (hm : m + p ≤ 10024) : ∀ d q, q + d = p → 1 ≤ q → Ev (fun k => spec_riCycle.l2 k (play m l) (play (m + q) l) (m : Int) (q : Int)) ((m : Int), (p : Int)) := by
  intro d
  induction d with
  | zero =>
    intro q hq h1
    obtain rfl : q = p := by omega
    refine Ev.step (fun k => by rw [spec_riCycle.l2]) ?_
    refine Ev.bind (l1Same_ev _ _ (play_ok hr m).1 (by simp only [play_length])) ?_
    rw [decide_eq_true hc.back.symm]
    exact Ev.pos rfl (Ev.now _)
  | succ d ih =>
    intro q hq h1
    refine Ev.step (fun k => by rw [spec_riCycle.l2]) ?_
    refine Ev.bind (l1Same_ev _ _ (play_ok hr m).1 (by simp only [play_length])) ?_
    rw [decide_eq_false (hc.apart m (m + q) (by omega) (by omega))]
    refine Ev.neg (by decide) (Ev.bind (riStep_ev _ (play_ok hr (m + q)).1 (play_ok hr (m + q)).2) ?_)
    rw [wrap_id (by omega) (by omega)]
    exact ih (q + 1) (by omega) (by omega)
theorem riCycle_l1 (hr : isRing l = true) (hc : Cyc (fun n => play n l) m p) (hm : m + p ≤ 10024) {N : Nat} (hN : 1 ≤ N) (hp : N % p = 0) : ∀ d i, i + d = m → Ev (fun k => spec_riCycle.l1 k (play i l) (play (N + i) l) (i : Int)) ((m : Int), (p : Int)) := by
  intro d
  have hpos := hc.pos
  induction d with
  | zero =>
    intro i hi
    obtain rfl : i = m := by omega
    refine Ev.step (fun k => by rw [spec_riCycle.l1]) ?_
    refine Ev.bind (l1Same_ev _ _ (play_ok hr i).1 (by simp only [play_length])) ?_
    have e := (hc.same (g := ringStep) (fun _ => rfl) (show i < N + i by omega)).2 ⟨Nat.le_refl _, by rw [show N + i - i = N from by omega]; exact hp⟩
    rw [decide_eq_true e]
    refine Ev.pos rfl (Ev.bind (riStep_ev _ (play_ok hr i).1 (play_ok hr i).2) ?_)
    exact riCycle_l2 hr hc hm (p - 1) 1 (by omega) (Nat.le_refl _)
  | succ d ih =>
    intro i hi
    refine Ev.step (fun k => by rw [spec_riCycle.l1]) ?_
    refine Ev.bind (l1Same_ev _ _ (play_ok hr i).1 (by simp only [play_length])) ?_
    have e : play i l ≠ play (N + i) l := fun e => by
      have := ((hc.same (g := ringStep) (fun _ => rfl) (show i < N + i by omega)).1 e).1
      omega
    rw [decide_eq_false e]
    refine Ev.neg (by decide) (Ev.bind (riStep_ev _ (play_ok hr i).1 (play_ok hr i).2) (Ev.bind (riStep_ev _ (play_ok hr (N + i)).1 (play_ok hr (N + i)).2) ?_))
    rw [wrap_id (by omega) (by omega)]
    exact ih (i + 1) (by omega)
theorem riCycle_l0 (hr : isRing l = true) (hc : Cyc (fun n => play n l) m p) (hm : m + p ≤ 10024) {v : Nat} (hv : play v l = play (v + v) l) : ∀ d n, n + d = v → 1 ≤ n → Ev (fun k => spec_riCycle.l0 k l (play n l) (play (n + n) l)) ((m : Int), (p : Int)) := by
  intro d
  induction d with
  | zero =>
    intro n hn h1
    obtain rfl : n = v := by omega
    refine Ev.step (fun k => by rw [spec_riCycle.l0]) ?_
    refine Ev.bind (l1Same_ev _ _ (play_ok hr n).1 (by simp only [play_length])) ?_
    rw [decide_eq_true hv]
    refine Ev.pos rfl (Ev.bind (Ev.const (l1Own_eq l (ring_ok hr).1)) ?_)
    have e := ((hc.same (g := ringStep) (fun _ => rfl) (show n < n + n by omega)).1 hv).2
    rw [show n + n - n = n from by omega] at e
    exact riCycle_l1 hr hc hm (N := n + n) (by omega) (by rw [Nat.add_mod, e]; simp) m 0 (by omega)
  | succ d ih =>
    intro n hn h1
    refine Ev.step (fun k => by rw [spec_riCycle.l0]) ?_
    refine Ev.bind (l1Same_ev _ _ (play_ok hr n).1 (by simp only [play_length])) ?_
    by_cases hv2 : play n l = play (n + n) l
    · rw [decide_eq_true hv2]
      refine Ev.pos rfl (Ev.bind (Ev.const (l1Own_eq l (ring_ok hr).1)) ?_)
      have e := ((hc.same (g := ringStep) (fun _ => rfl) (show n < n + n by omega)).1 hv2).2
      rw [show n + n - n = n from by omega] at e
      exact riCycle_l1 hr hc hm (N := n + n) (by omega) (by rw [Nat.add_mod, e]; simp) m 0 (by omega)
    · rw [decide_eq_false hv2]
      refine Ev.neg (by decide) (Ev.bind (riStep_ev _ (play_ok hr n).1 (play_ok hr n).2) (Ev.bind (riPlay_ev (play (n + n) l) 2 (by omega) (play_ok hr (n + n)).1 (play_ok hr (n + n)).2) ?_))
      rw [← play_add, show n + n + 2 = n + 1 + (n + 1) from by omega]
      exact ih (n + 1) (by omega) (by omega)
theorem riCycle_ev (hr : isRing l = true) (hc : Cyc (fun n => play n l) m p) (hm : m + p ≤ 10024) : Ev (fun k => spec_riCycle.f k l) ((m : Int), (p : Int)) := by
  have hpos := hc.pos
  refine Ev.bind (riStep_ev l (ring_ok hr).1 (ring_ok hr).2) (Ev.bind (riPlay_ev l 2 (by omega) (ring_ok hr).1 (ring_ok hr).2) ?_)
  have h1 : 1 ≤ p * (m + 1) := Nat.mul_pos hpos (by omega)
  have h2 : m + 1 ≤ p * (m + 1) := Nat.le_mul_of_pos_left _ hpos
  have hv : play (p * (m + 1)) l = play (p * (m + 1) + p * (m + 1)) l := (hc.same (g := ringStep) (fun _ => rfl) (show p * (m + 1) < p * (m + 1) + p * (m + 1) by omega)).2 ⟨by omega, by rw [Nat.add_sub_cancel, Nat.mul_mod_right]⟩
  exact riCycle_l0 hr hc hm hv (p * (m + 1) - 1) 1 (by omega) (Nat.le_refl _)
end
theorem sCycle_l0 : ∀ (n : Nat) (u : List Int) (acc : List (List Int)), isRing u = true → acc.length + n ≤ 1000000 → Ev (fun k => spec_CycleOfRing.l0 k (n : Int) u acc) (acc ++ (List.range n).map (fun i => play i u), true) := by
  intro n
  induction n with
  | zero =>
    intro u acc _ _
    refine Ev.step (fun k => by rw [spec_CycleOfRing.l0]) ?_
    refine Ev.neg (by omega) ?_
    simp only [List.range_zero, List.map_nil, List.append_nil]
    exact Ev.now _
  | succ n ih =>
    intro u acc hu ha
    refine Ev.step (fun k => by rw [spec_CycleOfRing.l0]) ?_
    rw [l1Own_eq u (ring_ok hu).1]
    refine Ev.pos (by omega) (Ev.some_ (Ev.pos (by omega) (Ev.bind (riStep_ev u (ring_ok hu).1 (ring_ok hu).2) ?_)))
    rw [wrap_id (by omega) (by omega), show ((n + 1 : Nat) : Int) - 1 = (n : Int) from by omega]
    have := ih (ringStep u) (acc ++ [u]) (play_isRing hu 1) (by rw [List.length_append, List.length_singleton]; omega)
    rw [List.append_assoc] at this
    rw [List.range_succ_eq_map, List.map_cons, List.map_map]
    have e : (fun i => play i u) ∘ Nat.succ = fun i => play i (ringStep u) := funext fun i => play_succ' i u
    rw [e]
    exact this
theorem within_eq (a b c : Int) : impl_within.f a b c = some (decide (b ≤ a ∧ a ≤ c)) := by
  unfold impl_within.f
  by_cases h : a ≥ b
  · rw [if_pos h]; simp [h]
  · rw [if_neg h]; simp [h]
theorem areIn_eq (l : List Int) (a b : Int) : impl_areIn.f l a b = some (l.all fun x => decide (a ≤ x ∧ x ≤ b)) := rfl
theorem isRing_eq (l : List Int) : impl_IsRing.f l = some (isRing l) := by
  unfold impl_IsRing.f isRing
  rw [within_eq, Option.bind_some]
  by_cases h : (2 : Int) ≤ (l.length : Int) ∧ (l.length : Int) ≤ 10
  · rw [if_pos (decide_eq_true h), decide_eq_true h, Bool.true_and]
    rfl
  · rw [if_neg (by simpa using h), decide_eq_false h, Bool.false_and]
theorem clone_eq (l : List Int) (hl : l.length ≤ 1048576) : slices_Clone_int_int.f l = some l := by
  unfold slices_Clone_int_int.f
  rw [if_pos (by omega)]
theorem size_eq {x : Int} (h1 : -1000000 ≤ x) (h2 : x ≤ 1000000) : impl_size.f x = some (absd x) := by
  unfold impl_size.f
  rw [wrap_id (by omega) (by omega), mx_eq]
  rfl
theorem tmod_succ' {i n : Nat} (hi : i < n) (hn : n ≤ 1048576) : Int.tmod (wrap64 ((i : Int) + 1)) (n : Int) = (((i + 1) % n : Nat) : Int) := by
  rw [wrap_succ hi (by omega)]
  exact (Int.ofNat_tmod _ _).symm
theorem ringStep_ev (l : List Int) (hl : l.length ≤ 1048576) (hb : allIn l 0 1000000 = true) : Ev (fun k => impl_ringStep.f k l) (ringStep l) := by
  have key := range (n := l.length) (fun (s : List Int) i k => impl_ringStep.l0 k l s l (l.length : Int) i) (fun _ _ => ringStep l) (fun i s => s = (List.range i).map (stepAt l)) (by
    intro s hs
    refine Ev.step (fun k => by rw [impl_ringStep.l0]) ?_
    refine Ev.neg (by omega) ?_
    rw [hs]
    exact Ev.now _) (by
    intro i s hi hs ih
    refine Ev.step (fun k => by rw [impl_ringStep.l0]) ?_
    have hsl : s.length = i := by rw [hs]; simp
    have h1 := allIn_rd hb hi
    have hm := Nat.mod_lt (i + 1) (Nat.lt_of_le_of_lt (Nat.zero_le i) hi)
    have h2 := allIn_rd hb hm
    rw [tmod_succ' hi hl]
    refine Ev.pos (by omega) (Ev.pos (by omega) (Ev.pos (by omega) (Ev.neg (by omega) (Ev.pos (by omega) (Ev.pos (by omega) ?_)))))
    rw [wrap_id (x := rd l (i : Int) - _) (by omega) (by omega), size_eq (by omega) (by omega)]
    refine Ev.some_ (Ev.pos (by omega) ?_)
    rw [wrap_succ hi (by omega)]
    refine ih _ ?_
    rw [List.range_succ, List.map_append, hs]
    rfl)
  exact key 0 [] (by omega) rfl
theorem join_length_le (xs : List (List UInt8)) (sep : List UInt8) (B : Nat) (h : ∀ x ∈ xs, x.length ≤ B) : (Lib.join xs sep).length ≤ (B + sep.length) * xs.length := by
  cases xs with
  | nil => simp [Lib.join]
  | cons x t =>
    rw [Lib.join_cons]
    have h1 := h x List.mem_cons_self
    have h2 : (Lib.joinTail sep t).length ≤ (B + sep.length) * t.length := by
      have : ∀ t : List (List UInt8), (∀ y ∈ t, y.length ≤ B) → (Lib.joinTail sep t).length ≤ (B + sep.length) * t.length := by
        intro t
        induction t with
        | nil => intro _; simp [Lib.joinTail]
        | cons y t ih =>
          intro hh
          have a1 := hh y List.mem_cons_self
          have a2 := ih (fun z hz => hh z (List.mem_cons_of_mem _ hz))
          unfold Lib.joinTail at a2 ⊢
          rw [List.map_cons, List.flatten_cons, List.length_append, List.length_append, List.length_cons, Nat.mul_add]
          omega
      exact this t (fun y hy => h y (List.mem_cons_of_mem _ hy))
    rw [List.length_append, List.length_cons, Nat.mul_add]
    omega
theorem joined_ev (l : List Int) (sep : ByteArray) (hl : l.length ≤ 1000) (hs : sep.size ≤ 10) (hb : allIn l (-9223372036854775808) 9223372036854775807 = true) : Ev (fun k => impl_joined.f k l sep) ⟨(Lib.join (l.map Lib.itoa) sep.data.toList).toArray⟩ := by
  have key := range (n := l.length) (fun (s : List ByteArray) i k => impl_joined.l0 k sep s l (l.length : Int) i) (fun _ _ => (⟨(Lib.join (l.map Lib.itoa) sep.data.toList).toArray⟩ : ByteArray)) (fun i s => s = (l.take i).map fun n => (⟨(Lib.itoa n).toArray⟩ : ByteArray)) (by
    intro s hs'
    refine Ev.step (fun k => by rw [impl_joined.l0]) ?_
    rw [List.take_length] at hs'
    refine Ev.neg (by omega) (Ev.bind (a := (⟨(Lib.join (l.map Lib.itoa) sep.data.toList).toArray⟩ : ByteArray)) (Ev.const ?_) (Ev.now _))
    have hm : s.map (·.data.toList) = l.map Lib.itoa := by
      rw [hs', List.map_map]
      exact List.map_congr_left (fun x _ => rfl)
    have hlen := join_length_le (l.map Lib.itoa) sep.data.toList 21 (fun x hx => by
      obtain ⟨n, hn, rfl⟩ := List.mem_map.1 hx
      have := allIn_iff.1 hb n hn
      exact Lib.itoa_length_le n this.1 this.2)
    rw [List.length_map] at hlen
    have hsz : sep.data.toList.length ≤ 10 := by simpa using hs
    have hmul : (21 + sep.data.toList.length) * l.length ≤ 31 * 1000 := Nat.mul_le_mul (by omega) hl
    unfold strings_Join.f
    rw [hm, if_pos (by rw [hs', List.length_map]; omega), if_pos (by omega)]) (by
    intro i s hi hs' ih
    refine Ev.step (fun k => by rw [impl_joined.l0]) ?_
    have h1 := allIn_rd hb hi
    have hsl : s.length = i := by rw [hs', List.length_map, List.length_take]; omega
    refine Ev.pos (by omega) (Ev.pos (by omega) (Ev.pos (by omega) (Ev.bind (a := (⟨(Lib.itoa (rd l (i : Int))).toArray⟩ : ByteArray)) (Ev.const ?_) (Ev.pos (by omega) ?_))))
    · unfold strconv_Itoa.f
      rw [if_pos h1.1, if_pos h1.2]
    · rw [wrap_succ hi (by omega)]
      refine ih _ ?_
      rw [take_rd hi, List.map_append, hs']
      rfl)
  exact key 0 [] (by omega) rfl
theorem digits_step {u : Nat} (h : ¬ u < 10) : Lib.decDigits u = Lib.decDigits (u / 10) ++ [UInt8.ofNat (48 + u % 10)] := by
  rw [Lib.decDigits, dif_neg h]
theorem digits_one {u : Nat} (h : u < 10) : Lib.decDigits u = [UInt8.ofNat (48 + u)] := by
  rw [Lib.decDigits, dif_pos h]
def numOf (l : List UInt8) : Nat := l.foldl (fun a c => a * 10 + (c.toNat - 48)) 0
theorem digit_toNat {d : Nat} (h : d < 10) : (UInt8.ofNat (48 + d)).toNat = 48 + d := by
  rw [UInt8.toNat_ofNat']
  omega
theorem numOf_digits (u : Nat) : numOf (Lib.decDigits u) = u := by
  induction u using Nat.strongRecOn with
  | _ u ih =>
    by_cases h : u < 10
    · rw [digits_one h]
      simp only [numOf, List.foldl_cons, List.foldl_nil, digit_toNat h]
      omega
    · have e := ih (u / 10) (by omega)
      rw [digits_step h]
      unfold numOf at e ⊢
      rw [List.foldl_append, e, List.foldl_cons, List.foldl_nil, digit_toNat (Nat.mod_lt u (by decide))]
      omega
theorem digits_no (u : Nat) : (45 : UInt8) ∉ Lib.decDigits u := by
  induction u using Nat.strongRecOn with
  | _ u ih =>
    have one : ∀ d, d < 10 → (45 : UInt8) ≠ UInt8.ofNat (48 + d) := by
      intro d hd e
      have := congrArg UInt8.toNat e
      rw [digit_toNat hd] at this
      have h45 : (45 : UInt8).toNat = 45 := rfl
      omega
    by_cases h : u < 10
    · rw [digits_one h]
      intro hm
      exact one u h (List.mem_singleton.1 hm)
    · rw [digits_step h]
      intro hm
      rcases List.mem_append.1 hm with hm | hm
      · exact ih (u / 10) (by omega) hm
      · exact one (u % 10) (Nat.mod_lt u (by decide)) (List.mem_singleton.1 hm)
theorem itoa_digits (u : Nat) : Lib.itoa (u : Int) = Lib.decDigits u := by unfold Lib.itoa; rw [if_neg (by omega)]; simp
theorem itoa_no {x : Int} (h : 0 ≤ x) : (45 : UInt8) ∉ Lib.itoa x := by
  obtain ⟨u, rfl⟩ := Int.eq_ofNat_of_zero_le h
  rw [itoa_digits]
  exact digits_no u
theorem itoa_inj {x y : Int} (h : 0 ≤ x) (h' : 0 ≤ y) (e : Lib.itoa x = Lib.itoa y) : x = y := by
  obtain ⟨u, rfl⟩ := Int.eq_ofNat_of_zero_le h
  obtain ⟨v, rfl⟩ := Int.eq_ofNat_of_zero_le h'
  rw [itoa_digits, itoa_digits] at e
  have := congrArg numOf e
  rw [numOf_digits, numOf_digits] at this
  omega
theorem split45 : ∀ a b : List UInt8, (45 : UInt8) ∉ a → (45 : UInt8) ∉ b → ∀ z z', a ++ 45 :: z = b ++ 45 :: z' → a = b ∧ z = z'
  | [], [], _, _, z, z', e => by simpa using e
  | [], y :: b, _, h2, z, z', e => by
    simp only [List.nil_append, List.cons_append, List.cons.injEq] at e
    exact absurd (by rw [← e.1]; exact List.mem_cons_self) h2
  | x :: a, [], h1, _, z, z', e => by
    simp only [List.nil_append, List.cons_append, List.cons.injEq] at e
    exact absurd (by rw [e.1]; exact List.mem_cons_self) h1
  | x :: a, y :: b, h1, h2, z, z', e => by
    simp only [List.cons_append, List.cons.injEq] at e
    have := split45 a b (fun h => h1 (List.mem_cons_of_mem _ h)) (fun h => h2 (List.mem_cons_of_mem _ h)) z z' e.2
    exact ⟨by rw [e.1, this.1], this.2⟩
theorem tail_inj : ∀ (xs ys : List (List UInt8)) (x y : List UInt8), xs.length = ys.length → (∀ z ∈ x :: xs, (45 : UInt8) ∉ z) → (∀ z ∈ y :: ys, (45 : UInt8) ∉ z) → x ++ Lib.joinTail [45] xs = y ++ Lib.joinTail [45] ys → x :: xs = y :: ys
  | [], [], x, y, _, _, _, e => by simpa [Lib.joinTail] using e
  | [], _ :: _, _, _, h, _, _, _ => by simp at h
  | _ :: _, [], _, _, h, _, _, _ => by simp at h
  | x2 :: xs, y2 :: ys, x, y, h, h1, h2, e => by
    have t : ∀ a r, Lib.joinTail [45] (a :: r) = 45 :: (a ++ Lib.joinTail [45] r) := fun a r => by simp [Lib.joinTail]
    rw [t, t] at e
    have := split45 x y (h1 x List.mem_cons_self) (h2 y List.mem_cons_self) _ _ e
    rw [this.1, tail_inj xs ys x2 y2 (by simpa using h) (fun z hz => h1 z (List.mem_cons_of_mem _ hz)) (fun z hz => h2 z (List.mem_cons_of_mem _ hz)) this.2]
theorem map_inj {α β : Type} {f : α → β} : ∀ l m : List α, (∀ x ∈ l, ∀ y ∈ m, f x = f y → x = y) → l.map f = m.map f → l = m
  | [], [], _, _ => rfl
  | [], _ :: _, _, e => by simp at e
  | _ :: _, [], _, e => by simp at e
  | x :: l, y :: m, h, e => by
    simp only [List.map_cons, List.cons.injEq] at e
    rw [h x List.mem_cons_self y List.mem_cons_self e.1, map_inj l m (fun a ha b hb => h a (List.mem_cons_of_mem _ ha) b (List.mem_cons_of_mem _ hb)) e.2]
def keyTo (u : List Int) : ByteArray := ⟨(Lib.join (u.map Lib.itoa) [45]).toArray⟩
theorem keyTo_inj {u v : List Int} {b : Int} (h1 : allIn u 0 b = true) (h2 : allIn v 0 b = true) (hl : u.length = v.length) (e : keyTo u = keyTo v) : u = v := by
  have e : Lib.join (u.map Lib.itoa) [45] = Lib.join (v.map Lib.itoa) [45] := by
    unfold keyTo at e
    injection e with e
    have := congrArg Array.toList e
    simpa using this
  cases u with
  | nil => cases v with
    | nil => rfl
    | cons y v => simp at hl
  | cons x u => cases v with
    | nil => simp at hl
    | cons y v =>
      rw [List.map_cons, List.map_cons, Lib.join_cons, Lib.join_cons] at e
      have no : ∀ w : List Int, allIn w 0 b = true → ∀ z ∈ w.map Lib.itoa, (45 : UInt8) ∉ z := by
        intro w hw z hz
        obtain ⟨n, hn, rfl⟩ := List.mem_map.1 hz
        exact itoa_no (allIn_iff.1 hw n hn).1
      have := tail_inj (u.map Lib.itoa) (v.map Lib.itoa) (Lib.itoa x) (Lib.itoa y) (by simpa using hl) (no (x :: u) h1) (no (y :: v) h2) e
      exact map_inj (f := Lib.itoa) (x :: u) (y :: v) (fun a ha c hc e => itoa_inj (allIn_iff.1 h1 a ha).1 (allIn_iff.1 h2 c hc).1 e) this
theorem posOf_map (f : Nat → ByteArray) (s : ByteArray) : ∀ (n a i : Nat), i < n → (∀ j, j < i → f (a + j) ≠ s) → f (a + i) = s → posOf s ((List.range' a n).map f) = i
  | 0, _, _, h, _, _ => by omega
  | n + 1, a, i, h, h1, h2 => by
    rw [List.range'_succ, List.map_cons]
    unfold posOf
    cases i with
    | zero => rw [if_pos (by simpa using h2)]
    | succ i =>
      rw [if_neg (by simpa using h1 0 (by omega)), posOf_map f s n (a + 1) i (by omega) (fun j hj => by have := h1 (j + 1) (by omega); rwa [show a + (j + 1) = a + 1 + j from by omega] at this) (by rw [show a + 1 + i = a + (i + 1) from by omega]; exact h2)]
section
variable {l : List Int} {m p : Nat}
theorem ringCycle_l0 (hr : isRing l = true) (hc : Cyc (fun n => play n l) m p) (hm : m + p ≤ 10024) : ∀ d n, n + d = m + p → Ev (fun k => impl_ringCycle.l0 k ((List.range n).map (fun i => keyTo (play i l))) ((List.range n).map (fun i => play i l)) (play n l)) ((List.range (m + p)).map (fun i => play i l), (m : Int)) := by
  have hpos := hc.pos
  have hsmall : ∀ n, (play n l).length ≤ 1000 ∧ allIn (play n l) (-9223372036854775808) 9223372036854775807 = true := fun n => by
    have := isRing_len (play_isRing hr n)
    exact ⟨by omega, allIn_mono this.2.2 (by decide) (by decide)⟩
  have hsz : ∀ n, (keyTo (play n l)).size ≤ 140737488355328 := fun n => by
    have h := join_length_le ((play n l).map Lib.itoa) [45] 21 (fun x hx => by
      obtain ⟨y, hy, rfl⟩ := List.mem_map.1 hx
      have := allIn_iff.1 (hsmall n).2 y hy
      exact Lib.itoa_length_le y this.1 this.2)
    rw [List.length_map] at h
    have h2 : (keyTo (play n l)).size = (Lib.join ((play n l).map Lib.itoa) [45]).length := by unfold keyTo; simp [ByteArray.size]
    have h3 : (21 + [(45 : UInt8)].length) * (play n l).length ≤ 22 * 1000 := Nat.mul_le_mul (by simp) (hsmall n).1
    omega
  have hinj : ∀ i j, keyTo (play i l) = keyTo (play j l) → play i l = play j l := fun i j e => keyTo_inj (isRing_len (play_isRing hr i)).2.2 (isRing_len (play_isRing hr j)).2.2 (by simp only [play_length]) e
  intro d
  induction d with
  | zero =>
    intro n hn
    obtain rfl : n = m + p := by omega
    refine Ev.step (fun k => by rw [impl_ringCycle.l0]) ?_
    refine Ev.bind (a := keyTo (play (m + p) l)) (joined_ev _ ⟨#[45]⟩ (hsmall _).1 (by decide) (hsmall _).2) (Ev.pos (hsz _) ?_)
    have hb : play (m + p) l = play m l := hc.back
    refine Ev.pos (List.mem_map.2 ⟨m, List.mem_range.2 (by omega), by rw [hb]⟩) ?_
    rw [List.range_eq_range', posOf_map (fun i => keyTo (play i l)) (keyTo (play (m + p) l)) (m + p) 0 m (by omega) (fun j hj e => hc.apart j m hj (by omega) (by rw [Nat.zero_add] at e; rw [← hb]; exact hinj _ _ e)) (by rw [Nat.zero_add, hb])]
    exact Ev.now _
  | succ d ih =>
    intro n hn
    refine Ev.step (fun k => by rw [impl_ringCycle.l0]) ?_
    refine Ev.bind (a := keyTo (play n l)) (joined_ev _ ⟨#[45]⟩ (hsmall _).1 (by decide) (hsmall _).2) (Ev.pos (hsz _) ?_)
    refine Ev.neg (fun h => ?_) (Ev.pos (by simp; omega) (Ev.bind (ringStep_ev _ (play_ok hr n).1 (play_ok hr n).2) ?_))
    · obtain ⟨i, hi, e⟩ := List.mem_map.1 h
      exact hc.apart i n (List.mem_range.1 hi) (by omega) (hinj _ _ e)
    · have := ih (n + 1) (by omega)
      rw [List.range_succ, List.map_append, List.map_append] at this
      exact this
theorem ringCycle_ev (hr : isRing l = true) (hc : Cyc (fun n => play n l) m p) (hm : m + p ≤ 10024) : Ev (fun k => impl_ringCycle.f k l) ((List.range (m + p)).map (fun i => play i l), (m : Int)) := by
  refine Ev.bind (Ev.const (clone_eq l (ring_ok hr).1)) ?_
  exact ringCycle_l0 hr hc hm (m + p) 0 (by omega)
end
theorem drop_range (f : Nat → List Int) (m p : Nat) : ((List.range (m + p)).map f).drop m = (List.range p).map (fun i => f (m + i)) := by
  apply List.ext_getElem
  · simp
  · intro i h1 h2
    simp
theorem iCycle_ev {l : List Int} {m p : Nat} (hr : isRing l = true) (hc : Cyc (fun n => play n l) m p) (hm : m + p ≤ 10024) : Ev (fun k => impl_CycleOfRing.f k l) ((List.range p).map (fun i => play (m + i) l), true) := by
  refine Ev.bind (Ev.const (isRing_eq l)) ?_
  rw [hr]
  refine Ev.pos rfl (Ev.bind (ringCycle_ev hr hc hm) (Ev.pos (by simp only; omega) (Ev.pos (by simp only [List.length_map, List.length_range]; omega) ?_)))
  simp only [Int.toNat_natCast]
  rw [drop_range]
  exact Ev.now _
theorem iCycle_no {l : List Int} (hr : isRing l = false) : Ev (fun k => impl_CycleOfRing.f k l) ([], false) := by
  refine Ev.bind (Ev.const (isRing_eq l)) ?_
  rw [hr]
  exact Ev.neg (by decide) (Ev.now _)
theorem eqIntS_ev (l m : List Int) (hl : l.length ≤ 1048576) (h : l = m) : Ev (fun k => laws_eqIntS.f k l m) true := by
  subst h
  have key := range (n := l.length) (fun (_ : Unit) i k => laws_eqIntS.l0 k l l i) (fun _ _ => true) (fun _ _ => True) (by
    intro s _
    refine Ev.step (fun k => by rw [laws_eqIntS.l0]) ?_
    exact Ev.neg (by omega) (Ev.now _)) (by
    intro i s hi _ ih
    refine Ev.step (fun k => by rw [laws_eqIntS.l0]) ?_
    refine Ev.pos (by omega) (Ev.pos (by omega) (Ev.pos (by omega) (Ev.pos rfl ?_)))
    rw [wrap_succ hi (by omega)]
    exact ih s trivial)
  exact Ev.pos rfl (key 0 () (by omega) trivial)
theorem rdL_mid (a : List (List Int)) (x : List Int) (b : List (List Int)) : rd_L1 (a ++ x :: b) (a.length : Int) = x := by
  unfold rd_L1
  rw [Int.toNat_natCast, List.getD_eq_getElem?_getD, List.getElem?_append_right (Nat.le_refl _), Nat.sub_self]
  rfl
theorem eqIntSS_ev (g : List (List Int)) (hl : g.length ≤ 1048576) (hm : ∀ x ∈ g, x.length ≤ 1048576) : Ev (fun k => laws_eqIntSS.f k g g) true := by
  have key : ∀ (post pre : List (List Int)), pre ++ post = g → Ev (fun k => laws_eqIntSS.l0 k g g (pre.length : Int)) true := by
    intro post
    induction post with
    | nil =>
      intro pre e
      refine Ev.step (fun k => by rw [laws_eqIntSS.l0]) ?_
      rw [← e, List.append_nil]
      exact Ev.neg (by omega) (Ev.now _)
    | cons x t ih =>
      intro pre e
      refine Ev.step (fun k => by rw [laws_eqIntSS.l0]) ?_
      have hlt : pre.length < g.length := by rw [← e, List.length_append, List.length_cons]; omega
      have hr : rd_L1 g (pre.length : Int) = x := by rw [← e]; exact rdL_mid pre x t
      rw [hr]
      refine Ev.pos (by omega) (Ev.pos (by omega) (Ev.pos (by omega) (Ev.bind (eqIntS_ev x x (hm x (by rw [← e]; simp)) rfl) (Ev.pos rfl ?_))))
      rw [wrap_succ hlt (by omega)]
      have := ih (pre ++ [x]) (by rw [List.append_assoc]; exact e)
      rw [List.length_append, List.length_singleton] at this
      exact this
  exact Ev.pos rfl (key g [] rfl)
theorem markIntS_ev (l : List Int) (a : Int) (hl : l.length ≤ 1048576) (ha : 0 ≤ a) (ha2 : a ≤ 1099511627776) : Ev (fun k => laws_markIntS.f k l a) (a + l.length, upFrom a l.length) := by
  have key := range (n := l.length) (fun (s : List Int × Int) i k => laws_markIntS.l0 k s.1 s.2 i) (fun _ _ => (a + l.length, upFrom a l.length)) (fun i s => s.1.length = l.length ∧ s.1.take i = upFrom a i ∧ s.2 = a + i) (by
    intro s ⟨h1, h2, h3⟩
    refine Ev.step (fun k => by rw [laws_markIntS.l0]) ?_
    refine Ev.neg (by omega) ?_
    rw [List.take_of_length_le (by omega)] at h2
    rw [h2, h3]
    exact Ev.now _) (by
    intro i s hi ⟨h1, h2, h3⟩ ih
    refine Ev.step (fun k => by rw [laws_markIntS.l0]) ?_
    refine Ev.pos (by omega) (Ev.pos (by omega) ?_)
    rw [wrap_succ hi (by omega), Int.toNat_natCast, wrap_id (by omega) (by omega)]
    refine ih (s.1.set i s.2, s.2 + 1) ⟨by simpa using h1, ?_, by simp only; omega⟩
    have hs : i < s.1.length := by omega
    simp only
    rw [upFrom_snoc, ← h2, List.take_succ_eq_append_getElem (by simpa using hs), List.take_set_of_le (Nat.le_refl _)]
    simp [h3])
  exact key 0 (l, a) (by omega) ⟨rfl, by simp [upFrom], by simp⟩
def lenSum : List (List Int) → Nat
  | [] => 0
  | x :: t => x.length + lenSum t
/-- Rows of one's own numbers, one after another from a on. -/
def markL (a : Int) : List (List Int) → List (List Int)
  | [] => []
  | x :: t => upFrom a x.length :: markL (a + x.length) t
theorem markL_length : ∀ (g : List (List Int)) (a : Int), (markL a g).length = g.length
  | [], _ => rfl
  | x :: t, a => by simp [markL, markL_length t]
theorem markIntSS_l0 : ∀ (post pre : List (List Int)) (a : Int), pre.length + post.length ≤ 1048576 → (∀ x ∈ post, x.length ≤ 1048576) → 0 ≤ a → a + lenSum post ≤ 1099511627776 → Ev (fun k => laws_markIntSS.l0 k (pre ++ post) a (pre.length : Int)) (a + lenSum post, pre ++ markL a post)
  | [], pre, a, _, _, _, _ => by
    refine Ev.step (fun k => by rw [laws_markIntSS.l0]) ?_
    rw [List.append_nil]
    refine Ev.neg (by omega) ?_
    simp only [lenSum, markL, List.append_nil, Int.natCast_zero, Int.add_zero]
    exact Ev.now _
  | x :: t, pre, a, hl, hm, h0, h1 => by
    refine Ev.step (fun k => by rw [laws_markIntSS.l0]) ?_
    simp only [lenSum] at h1 ⊢
    have hg : (pre ++ x :: t).getD (pre.length : Int).toNat [] = x := by
      rw [Int.toNat_natCast, List.getD_eq_getElem?_getD, List.getElem?_append_right (Nat.le_refl _), Nat.sub_self]
      rfl
    rw [hg]
    refine Ev.pos (by rw [List.length_append, List.length_cons]; omega) (Ev.pos (by omega) (Ev.bind (markIntS_ev x a (hm x (by simp)) h0 (by omega)) ?_))
    simp only
    rw [Int.toNat_natCast, set_app, wrap_id (by simp at hl; omega) (by simp at hl; omega)]
    have ih := markIntSS_l0 t (pre ++ [upFrom a x.length]) (a + x.length) (by simp at hl ⊢; omega) (fun y hy => hm y (by simp [hy])) (by omega) (by omega)
    rw [List.append_assoc, List.singleton_append, List.length_append, List.length_singleton, List.append_assoc, List.singleton_append] at ih
    rw [show a + ((x.length + lenSum t : Nat) : Int) = a + x.length + lenSum t from by omega]
    exact ih
theorem markIntSS_ev (g : List (List Int)) (a : Int) (hl : g.length ≤ 1048576) (hm : ∀ x ∈ g, x.length ≤ 1048576) (h0 : 0 ≤ a) (h1 : a + lenSum g ≤ 1099511627776) : Ev (fun k => laws_markIntSS.f k g a) (a + lenSum g, markL a g) :=
  markIntSS_l0 g [] a (by simpa using hl) hm h0 h1
theorem heldIntS_ev (n : Nat) (a : Int) (hl : n ≤ 1048576) (ha : 0 ≤ a) (ha2 : a ≤ 1099511627776) : Ev (fun k => laws_heldIntS.f k (upFrom a n) a) (a + n) := by
  have hlen := upFrom_length a n
  have key := range (n := n) (fun (s : Int) i k => laws_heldIntS.l0 k (upFrom a n) s i) (fun _ _ => a + n) (fun i s => s = a + i) (by
    intro s hs
    refine Ev.step (fun k => by rw [laws_heldIntS.l0]) ?_
    rw [hs]
    exact Ev.neg (by omega) (Ev.now _)) (by
    intro i s hi hs ih
    refine Ev.step (fun k => by rw [laws_heldIntS.l0]) ?_
    refine Ev.pos (by omega) (Ev.pos (by omega) (Ev.pos ?_ ?_))
    · rw [rd_get (by omega), upFrom_get, hs]
    · rw [wrap_succ hi (by omega), wrap_id (by omega) (by omega)]
      exact ih _ (by omega))
  exact key 0 a (by omega) (by simp)
theorem heldIntSS_l0 : ∀ (post pre : List (List Int)) (a : Int), pre.length + post.length ≤ 1048576 → (∀ x ∈ post, x.length ≤ 1048576) → 0 ≤ a → a + lenSum post ≤ 1099511627776 → Ev (fun k => laws_heldIntSS.l0 k (pre ++ markL a post) a (pre.length : Int)) (a + lenSum post)
  | [], pre, a, _, _, _, _ => by
    refine Ev.step (fun k => by rw [laws_heldIntSS.l0]) ?_
    simp only [markL, List.append_nil, lenSum, Int.natCast_zero, Int.add_zero]
    exact Ev.neg (by omega) (Ev.now _)
  | x :: t, pre, a, hl, hm, h0, h1 => by
    refine Ev.step (fun k => by rw [laws_heldIntSS.l0]) ?_
    simp only [lenSum] at h1 ⊢
    simp only [markL]
    rw [rdL_mid]
    refine Ev.pos (by rw [List.length_append, List.length_cons]; omega) (Ev.pos (by omega) (Ev.bind (heldIntS_ev x.length a (hm x (by simp)) h0 (by omega)) (Ev.neg (by omega) ?_)))
    rw [wrap_id (by simp at hl; omega) (by simp at hl; omega)]
    have ih := heldIntSS_l0 t (pre ++ [upFrom a x.length]) (a + x.length) (by simp at hl ⊢; omega) (fun y hy => hm y (by simp [hy])) (by omega) (by omega)
    rw [List.append_assoc, List.singleton_append, List.length_append, List.length_singleton] at ih
    rw [show a + ((x.length + lenSum t : Nat) : Int) = a + x.length + lenSum t from by omega]
    exact ih
theorem heldIntSS_ev (g : List (List Int)) (a : Int) (hl : g.length ≤ 1048576) (hm : ∀ x ∈ g, x.length ≤ 1048576) (h0 : 0 ≤ a) (h1 : a + lenSum g ≤ 1099511627776) : Ev (fun k => laws_heldIntSS.f k (markL a g) a) (a + lenSum g) :=
  heldIntSS_l0 g [] a (by simpa using hl) hm h0 h1
theorem lenSum_le {b : Nat} : ∀ (g : List (List Int)), (∀ x ∈ g, x.length ≤ b) → lenSum g ≤ b * g.length
  | [], _ => by simp [lenSum]
  | x :: t, h => by
    have h1 := lenSum_le t (fun y hy => h y (by simp [hy]))
    have h2 := h x (by simp)
    simp only [lenSum, List.length_cons]
    rw [Nat.mul_succ]
    omega
theorem both_CycleOfRing (l : List Int) (hl : l.length ≤ 1048576) : ∃ w : List (List Int) × Bool, Ev (fun k => spec_CycleOfRing.f k l) w ∧ Ev (fun k => impl_CycleOfRing.f k l) w ∧ w.1.length ≤ 20000 ∧ ∀ x ∈ w.1, x.length ≤ 100 := by
  cases h : isRing l with
  | false =>
    refine ⟨([], false), Ev.bind (riGood_ev l hl) ?_, iCycle_no h, by simp, by simp⟩
    rw [h]; exact Ev.neg (by decide) (Ev.now _)
  | true =>
    obtain ⟨m, p, hc, hm⟩ := ring_cyc h
    refine ⟨_, Ev.bind (riGood_ev l hl) ?_, iCycle_ev h hc hm, by simp; omega, ?_⟩
    · rw [h]
      refine Ev.pos rfl (Ev.bind (riCycle_ev h hc hm) (Ev.bind (riPlay_ev l m (by omega) (ring_ok h).1 (ring_ok h).2) ?_))
      have e : (List.range p).map (fun i => play (m + i) l) = (List.range p).map (fun i => play i (play m l)) := List.map_congr_left fun i _ => play_add m i l
      rw [e]
      have := sCycle_l0 p (play m l) [] (play_isRing h m) (by simp; omega)
      rw [List.nil_append] at this
      exact this
    · intro x hx
      obtain ⟨i, _, rfl⟩ := List.mem_map.1 hx
      have := isRing_len (play_isRing h (m + i))
      omega
theorem FnExactCycleOfRing : laws_FnExactCycleOfRing.Pure := by
  intro l h1 h2 h3
  refine Ev.rounds ?_
  refine Ev.congr (fun k => by rw [laws_FnExactCycleOfRing.f]) ?_
  by_cases hl : (l.length : Int) > 1048576
  · exact Ev.pos hl (Ev.now _)
  refine Ev.neg hl ?_
  have hn : l.length ≤ 1048576 := by omega
  obtain ⟨w, hS, hI, hw1, hw2⟩ := both_CycleOfRing l hn
  have hw3 : ∀ x ∈ w.1, x.length ≤ 1048576 := fun x hx => by have := hw2 x hx; omega
  have hw4 := lenSum_le w.1 hw2
  refine Ev.bind (toIntS_ev l hn) (Ev.bind hS (Ev.bind hI (Ev.bind (eqIntSS_ev w.1 (by omega) hw3) (Ev.bind (eqIntS_ev l l hn rfl) (Ev.bind (markIntS_ev l 1 hn (by omega) (by omega)) (Ev.bind (markIntSS_ev w.1 1 (by omega) hw3 (by omega) (by omega)) (Ev.bind (heldIntSS_ev w.1 1 (by omega) hw3 (by omega) (by omega)) ?_)))))))
  exact Ev.pos rfl (Ev.pos rfl (Ev.pos rfl (Ev.pos (by first | omega | (dsimp only; omega)) (Ev.pos (by first | omega | (dsimp only; omega)) (Ev.pos rfl (Ev.now _))))))

end Go.Proofs.YtffhhhkdnkdlgaaDoor.Pure
