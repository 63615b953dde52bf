/- What is proved here: the pure statement of the law FnExactSlowestToZero: for every input the law, as the print tells it, answers true. No condition. (The row that follows from it says it of the Go program.) -/
import Derived.Test.YtffhhhkdnkdlgaaDoorPFnExactSlowestToZerox5
import Derived.Test.YtffhhhkdnkdlgaaDoorBase
import Derived.Lib.ItoaLen
set_option linter.unusedSimpArgs false
set_option linter.unusedVariables false
namespace Go.Proofs.YtffhhhkdnkdlgaaDoor.Pure
open Go.RowKit Go.Proofs.YtffhhhkdnkdlgaaDoor.PFnExactSlowestToZero Go.Proofs.YtffhhhkdnkdlgaaDoorW.PrintWords Go.Proofs.YtffhhhkdnkdlgaaDoorW.PrintLast Go.Proofs.YtffhhhkdnkdlgaaDoor.Base

theorem eqIntS_ev (l m : List Int) (hl : l.length ≤ 1048576) (h : l = m) : Ev (fun k => laws_eqIntS.f k l m) true := by
  subst h
  have key := range (n := l.length) (fun (_ : Unit) i k => laws_eqIntS.l0 k l l i) (fun _ _ => true) (fun _ _ => True) (by
    intro s _
    refine Ev.step (fun k => by rw [laws_eqIntS.l0]) ?_
    exact Ev.neg (by omega) (Ev.now _)) (by
    intro i s hi _ ih
    refine Ev.step (fun k => by rw [laws_eqIntS.l0]) ?_
    refine Ev.pos (by omega) (Ev.pos (by omega) (Ev.pos (by omega) (Ev.pos rfl ?_)))
    rw [wrap_succ hi (by omega)]
    exact ih s trivial)
  exact Ev.pos rfl (key 0 () (by omega) trivial)
theorem markIntS_ev (l : List Int) (a : Int) (hl : l.length ≤ 1048576) (ha : 0 ≤ a) (ha2 : a ≤ 1099511627776) : Ev (fun k => laws_markIntS.f k l a) (a + l.length, upFrom a l.length) := by
  have key := range (n := l.length) (fun (s : List Int × Int) i k => laws_markIntS.l0 k s.1 s.2 i) (fun _ _ => (a + l.length, upFrom a l.length)) (fun i s => s.1.length = l.length ∧ s.1.take i = upFrom a i ∧ s.2 = a + i) (by
    intro s ⟨h1, h2, h3⟩
    refine Ev.step (fun k => by rw [laws_markIntS.l0]) ?_
    refine Ev.neg (by omega) ?_
    rw [List.take_of_length_le (by omega)] at h2
    rw [h2, h3]
    exact Ev.now _) (by
    intro i s hi ⟨h1, h2, h3⟩ ih
    refine Ev.step (fun k => by rw [laws_markIntS.l0]) ?_
    refine Ev.pos (by omega) (Ev.pos (by omega) ?_)
    rw [wrap_succ hi (by omega), Int.toNat_natCast, wrap_id (by omega) (by omega)]
    refine ih (s.1.set i s.2, s.2 + 1) ⟨by simpa using h1, ?_, by simp only; omega⟩
    have hs : i < s.1.length := by omega
    simp only
    rw [upFrom_snoc, ← h2, List.take_succ_eq_append_getElem (by simpa using hs), List.take_set_of_le (Nat.le_refl _)]
    simp [h3])
  exact key 0 (l, a) (by omega) ⟨rfl, by simp [upFrom], by simp⟩
theorem heldIntS_ev (n : Nat) (a : Int) (hl : n ≤ 1048576) (ha : 0 ≤ a) (ha2 : a ≤ 1099511627776) : Ev (fun k => laws_heldIntS.f k (upFrom a n) a) (a + n) := by
  have hlen := upFrom_length a n
  have key := range (n := n) (fun (s : Int) i k => laws_heldIntS.l0 k (upFrom a n) s i) (fun _ _ => a + n) (fun i s => s = a + i) (by
    intro s hs
    refine Ev.step (fun k => by rw [laws_heldIntS.l0]) ?_
    rw [hs]
    exact Ev.neg (by omega) (Ev.now _)) (by
    intro i s hi hs ih
    refine Ev.step (fun k => by rw [laws_heldIntS.l0]) ?_
    refine Ev.pos (by omega) (Ev.pos (by omega) (Ev.pos ?_ ?_))
    · rw [rd_get (by omega), upFrom_get, hs]
    · rw [wrap_succ hi (by omega), wrap_id (by omega) (by omega)]
      exact ih _ (by omega))
  exact key 0 a (by omega) (by simp)
theorem l1Own_eq (l : List Int) (hl : l.length ≤ 1048576) : spec_l1Own.f l = some l := by
  unfold spec_l1Own.f
  simp only [Option.bind_some, List.nil_append, List.length_nil]
  rw [if_pos (by omega)]
def snocs (most : Nat) (x : List Int) : List (List Int) := (List.range (most + 1)).map fun d => x ++ [((d : Nat) : Int)]
theorem snocs_length (most : Nat) (x : List Int) : (snocs most x).length = most + 1 := by unfold snocs; simp
theorem snocs_cons (most : Nat) (d : Int) (x : List Int) : snocs most (d :: x) = (snocs most x).map (d :: ·) := by
  unfold snocs
  rw [List.map_map]
  rfl
theorem digs_snocs (most : Nat) (L : List (List Int)) : ∀ (e : Nat) (d : Int), (digsFrom L d e).flatMap (snocs most) = digsFrom (L.flatMap (snocs most)) d e
  | 0, _ => rfl
  | e + 1, d => by
    rw [digsFrom, List.flatMap_append, digs_snocs most L e (d + 1), digsFrom]
    congr 1
    induction L with
    | nil => rfl
    | cons x t ih => rw [List.map_cons, List.flatMap_cons, List.flatMap_cons, List.map_append, snocs_cons, ih]
theorem snocs_nil (most : Nat) : snocs most [] = digsFrom [[]] 0 (most + 1) := by
  have key : ∀ (e d : Nat), digsFrom [[]] ((d : Nat) : Int) e = (List.range' d e).map fun i => [((i : Nat) : Int)] := by
    intro e
    induction e with
    | zero => intro d; rfl
    | succ e ih =>
      intro d
      rw [digsFrom, List.range'_succ, List.map_cons, show ((d : Nat) : Int) + 1 = ((d + 1 : Nat) : Int) from by omega, ih]
      rfl
  have := key (most + 1) 0
  rw [show ((0 : Nat) : Int) = 0 from rfl] at this
  rw [this, snocs, List.range_eq_range']
  rfl
theorem allL_snocs (most : Nat) : ∀ n, (allL most n).flatMap (snocs most) = allL most (n + 1)
  | 0 => by
    show [[]].flatMap (snocs most) = digsFrom [[]] 0 (most + 1)
    rw [← snocs_nil]
    simp
  | n + 1 => by
    show (digsFrom (allL most n) 0 (most + 1)).flatMap (snocs most) = digsFrom (allL most (n + 1)) 0 (most + 1)
    rw [digs_snocs, allL_snocs most n]
theorem cyAll_l2 {r : List (List Int)} {x0 i len : Int} {xs : List (List Int)} (most : Nat) (l : List Int) (hl : l.length ≤ 1000) (hm : most ≤ 1000) : ∀ (e n : Nat) (next : List (List Int)), n + e = most + 1 → next.length + e ≤ 10000000 →
    Ev (fun k => spec_cyAll.l1 k x0 (most : Int) (next ++ (List.range' n e).map fun d => l ++ [((d : Nat) : Int)]) xs len (wrap64 (i + 1))) r → Ev (fun k => spec_cyAll.l2 k x0 (most : Int) next l (n : Int) xs len i) r := by
  intro e
  induction e with
  | zero =>
    intro n next hn hb h
    refine Ev.step (fun k => by rw [spec_cyAll.l2]) ?_
    refine Ev.neg (by omega) ?_
    rw [List.range'_zero, List.map_nil, List.append_nil] at h
    exact h
  | succ e ih =>
    intro n next hn hb h
    refine Ev.step (fun k => by rw [spec_cyAll.l2]) ?_
    rw [l1Own_eq l (by omega)]
    refine Ev.pos (by omega) (Ev.some_ (Ev.pos (by omega) (Ev.pos (by omega) ?_)))
    rw [wrap_id (by omega) (by omega), show (n : Int) + 1 = ((n + 1 : Nat) : Int) from by omega]
    refine ih (n + 1) _ (by omega) (by rw [List.length_append, List.length_singleton]; omega) ?_
    rw [List.range'_succ, List.map_cons] at h
    rw [List.append_assoc]
    exact h
theorem cyAll_l1 {r : List (List Int)} {x0 : Int} (most : Nat) (hm : most ≤ 1000) : ∀ (post pre next : List (List Int)), (∀ x ∈ post, x.length ≤ 1000) → pre.length + post.length ≤ 10000 → next.length + post.length * (most + 1) ≤ 10000000 →
    Ev (fun k => spec_cyAll.l0 k (wrap64 (x0 - 1)) (most : Int) (next ++ post.flatMap (snocs most))) r → Ev (fun k => spec_cyAll.l1 k x0 (most : Int) next (pre ++ post) ((pre ++ post).length : Int) (pre.length : Int)) r := by
  intro post
  induction post with
  | nil =>
    intro pre next _ _ _ h
    refine Ev.step (fun k => by rw [spec_cyAll.l1]) ?_
    refine Ev.neg (by rw [List.append_nil]; omega) ?_
    rw [List.flatMap_nil, List.append_nil] at h
    exact h
  | cons x t ih =>
    intro pre next hx hp hb h
    simp only [List.length_cons] at hp hb
    refine Ev.step (fun k => by rw [spec_cyAll.l1]) ?_
    have hr : rd_L1 (pre ++ x :: t) (pre.length : Int) = x := by
      unfold rd_L1
      rw [Int.toNat_natCast, List.getD_eq_getElem?_getD, List.getElem?_append_right (Nat.le_refl _), Nat.sub_self]
      rfl
    rw [hr]
    have hb' : (t.length + 1) * (most + 1) = t.length * (most + 1) + (most + 1) := Nat.succ_mul _ _
    refine Ev.pos (by rw [List.length_append, List.length_cons]; omega) (Ev.pos (by omega) (Ev.pos (by rw [List.length_append, List.length_cons]; omega) ?_))
    refine cyAll_l2 most x (hx x (by simp)) hm (most + 1) 0 next (by omega) (by omega) ?_
    rw [wrap_id (by omega) (by omega)]
    have := ih (pre ++ [x]) (next ++ (List.range' 0 (most + 1)).map fun d => x ++ [((d : Nat) : Int)]) (fun y hy => hx y (by simp [hy])) (by rw [List.length_append, List.length_singleton]; omega) (by rw [List.length_append, List.length_map, List.length_range']; omega) (by
      rw [List.flatMap_cons] at h
      rw [← List.range_eq_range', List.append_assoc]
      exact h)
    rw [show (pre ++ [x]).length = pre.length + 1 from by simp, List.append_assoc, List.singleton_append] at this
    exact this
theorem cyAll_l0 (most : Nat) (hm : most ≤ 6) : ∀ (n m : Nat), m + n ≤ 4 → (allL most m).length * 7 ^ n ≤ 2401 → Ev (fun k => spec_cyAll.l0 k (n : Int) (most : Int) (allL most m)) (allL most (m + n)) := by
  intro n
  induction n with
  | zero =>
    intro m _ _
    refine Ev.step (fun k => by rw [spec_cyAll.l0]) ?_
    exact Ev.neg (by omega) (Ev.now _)
  | succ n ih =>
    intro m hmn hb
    refine Ev.step (fun k => by rw [spec_cyAll.l0]) ?_
    have h7 : 1 ≤ 7 ^ n := Nat.one_le_pow _ _ (by omega)
    have hlen : (allL most (m + 1)).length = (allL most m).length * (most + 1) := by
      rw [← allL_snocs, List.length_flatMap]
      have : ∀ L : List (List Int), (L.map fun x => (snocs most x).length).sum = L.length * (most + 1) := by
        intro L
        induction L with
        | nil => simp
        | cons x t ih => rw [List.map_cons, List.sum_cons, ih, snocs_length, List.length_cons, Nat.succ_mul]; omega
      exact this _
    have hsm : (allL most m).length ≤ 2401 := by
      have h1 : (allL most m).length * 1 ≤ (allL most m).length * 7 ^ (n + 1) := Nat.mul_le_mul_left _ (Nat.one_le_pow _ _ (by omega))
      omega
    have hq : (allL most m).length * (most + 1) ≤ 2401 * 7 := Nat.mul_le_mul hsm (by omega)
    refine Ev.pos (by omega) ?_
    have := cyAll_l1 (r := allL most (m + (n + 1))) (x0 := ((n + 1 : Nat) : Int)) most (by omega) (allL most m) [] [] (fun x hx => by have := (allL_ok most m x hx).1; omega) (by simp; omega) (by simp; omega) (by
      rw [wrap_id (by omega) (by omega), show ((n + 1 : Nat) : Int) - 1 = (n : Int) from by omega, List.nil_append, allL_snocs, show m + (n + 1) = m + 1 + n from by omega]
      refine ih (m + 1) (by omega) ?_
      rw [hlen]
      rw [Nat.pow_succ] at hb
      have h1 : (allL most m).length * (most + 1) * 7 ^ n ≤ (allL most m).length * 7 * 7 ^ n := Nat.mul_le_mul_right _ (Nat.mul_le_mul_left _ (by omega))
      have h2 : (allL most m).length * 7 * 7 ^ n = (allL most m).length * (7 ^ n * 7) := by rw [Nat.mul_assoc, Nat.mul_comm 7]
      omega)
    exact this
theorem cyAll_ev (n most : Nat) (hn : n ≤ 4) (hm : most ≤ 6) : Ev (fun k => spec_cyAll.f k (n : Int) (most : Int)) (allL most n) := by
  have := cyAll_l0 most hm n 0 (by omega) (by
    have h1 : 7 ^ n ≤ 7 ^ 4 := Nat.pow_le_pow_right (by omega) hn
    simp only [allL, List.length_singleton, Nat.one_mul]
    exact h1)
  rw [Nat.zero_add] at this
  exact this
theorem l1In_eq (a b c : Int) : spec_l1In.f a b c = some (decide (b ≤ a ∧ a ≤ c)) := by
  unfold spec_l1In.f
  by_cases h : a ≥ b
  · rw [if_pos h]; simp [h]
  · rw [if_neg h]; simp [h]
theorem l1Most_eq (a b : Int) : spec_l1Most.f a b = some (max a b) := by
  unfold spec_l1Most.f
  split <;> congr 1 <;> omega
theorem l1Abs_eq {x : Int} (h1 : -1000000 ≤ x) (h2 : x ≤ 1000000) : spec_l1Abs.f x = some (absd x) := by
  unfold spec_l1Abs.f
  rw [wrap_id (by omega) (by omega), l1Most_eq]
  rfl
theorem tmod_succ {i n : Nat} (hi : i < n) (hn : n ≤ 1048576) : Int.tmod (wrap64 ((i : Int) + 1)) (n : Int) = (((i + 1) % n : Nat) : Int) := by
  rw [wrap_succ hi (by omega)]
  exact (Int.ofNat_tmod _ _).symm
theorem riStep_ev (l : List Int) (hl : l.length ≤ 1048576) (hb : allIn l 0 1000000 = true) : Ev (fun k => spec_riStep.f k l) (ringStep l) := by
  have key := range (n := l.length) (fun (s : List Int) i k => spec_riStep.l0 k l s l (l.length : Int) i) (fun _ _ => ringStep l) (fun i s => s = (List.range i).map (stepAt l)) (by
    intro s hs
    refine Ev.step (fun k => by rw [spec_riStep.l0]) ?_
    refine Ev.neg (by omega) ?_
    rw [hs]
    exact Ev.now _) (by
    intro i s hi hs ih
    refine Ev.step (fun k => by rw [spec_riStep.l0]) ?_
    have hsl : s.length = i := by rw [hs]; simp
    have h1 := allIn_rd hb hi
    have hm := Nat.mod_lt (i + 1) (Nat.lt_of_le_of_lt (Nat.zero_le i) hi)
    have h2 := allIn_rd hb hm
    rw [tmod_succ hi hl]
    refine Ev.pos (by omega) (Ev.pos (by omega) (Ev.pos (by omega) (Ev.neg (by omega) (Ev.pos (by omega) (Ev.pos (by omega) ?_)))))
    rw [wrap_id (x := rd l (i : Int) - _) (by omega) (by omega), l1Abs_eq (by omega) (by omega)]
    refine Ev.some_ (Ev.pos (by omega) ?_)
    rw [wrap_succ hi (by omega)]
    refine ih _ ?_
    rw [List.range_succ, List.map_append, hs]
    rfl)
  exact key 0 [] (by omega) rfl
theorem riPlay_l0 (n : Nat) : n ≤ 1000000000000 → ∀ l : List Int, l.length ≤ 1048576 → allIn l 0 1000000 = true → Ev (fun k => spec_riPlay.l0 k (n : Int) l) (play n l) := by
  induction n with
  | zero =>
    intro _ l hl hb
    refine Ev.step (fun k => by rw [spec_riPlay.l0]) ?_
    exact Ev.neg (by omega) (Ev.now _)
  | succ n ih =>
    intro hn l hl hb
    refine Ev.step (fun k => by rw [spec_riPlay.l0]) ?_
    refine Ev.pos (by omega) (Ev.bind (riStep_ev l hl hb) ?_)
    rw [wrap_id (by omega) (by omega), show ((n + 1 : Nat) : Int) - 1 = (n : Int) from by omega, play_succ']
    exact ih (by omega) _ (by rw [ringStep_length]; exact hl) (ringStep_allIn hb)
theorem riPlay_ev (l : List Int) (n : Nat) (hn : n ≤ 1000000000000) (hl : l.length ≤ 1048576) (hb : allIn l 0 1000000 = true) : Ev (fun k => spec_riPlay.f k l (n : Int)) (play n l) := by
  refine Ev.bind (Ev.const (l1Own_eq l hl)) ?_
  exact riPlay_l0 n hn l hl hb
theorem l1Same_ev (l m : List Int) (hl : l.length ≤ 1048576) (h : l.length = m.length) : Ev (fun k => spec_l1Same.f k l m) (decide (l = m)) := by
  have key := range (n := l.length) (fun (_ : Unit) i k => spec_l1Same.l0 k l m (l.length : Int) i) (fun i _ => decide (l.drop i = m.drop i)) (fun _ _ => True) (by
    intro s _
    refine Ev.step (fun k => by rw [spec_l1Same.l0]) ?_
    refine Ev.neg (by omega) ?_
    rw [List.drop_length, h, List.drop_length]
    exact Ev.now _) (by
    intro i s hi _ ih
    refine Ev.step (fun k => by rw [spec_l1Same.l0]) ?_
    refine Ev.pos (by omega) (Ev.pos (by omega) (Ev.pos (by omega) (Ev.pos (by omega) ?_)))
    by_cases e : rd l (i : Int) = rd m (i : Int)
    · refine Ev.pos e ?_
      have : decide (l.drop i = m.drop i) = decide (l.drop (i + 1) = m.drop (i + 1)) := by
        rw [drop_rd hi, drop_rd (l := m) (by omega), e]
        simp
      rw [this, wrap_succ hi (by omega)]
      exact ih () trivial
    · refine Ev.neg e ?_
      have : decide (l.drop i = m.drop i) = false := by
        rw [drop_rd hi, drop_rd (l := m) (by omega)]
        simp [e]
      rw [this]
      exact Ev.now _)
  refine Ev.pos (by omega) ?_
  have := key 0 () (by omega) trivial
  simpa using this
section
variable {l : List Int} {m p : Nat}
theorem riCycle_l2 (hr : isRing l = true) (hc : Cyc (fun n => play n l) m p) (hm : m + p ≤ 10024) : ∀ d q, q + d = p → 1 ≤ q → Ev (fun k => spec_riCycle.l2 k (play m l) (play (m + q) l) (m : Int) (q : Int)) ((m : Int), (p : Int)) := by
  intro d
  induction d with
  | zero =>
    intro q hq h1
    obtain rfl : q = p := by omega
    refine Ev.step (fun k => by rw [spec_riCycle.l2]) ?_
    refine Ev.bind (l1Same_ev _ _ (play_ok hr m).1 (by simp only [play_length])) ?_
    rw [decide_eq_true hc.back.symm]
    exact Ev.pos rfl (Ev.now _)
  | succ d ih =>
    intro q hq h1
    refine Ev.step (fun k => by rw [spec_riCycle.l2]) ?_
    refine Ev.bind (l1Same_ev _ _ (play_ok hr m).1 (by simp only [play_length])) ?_
    rw [decide_eq_false (hc.apart m (m + q) (by omega) (by omega))]
    refine Ev.neg (by decide) (Ev.bind (riStep_ev _ (play_ok hr (m + q)).1 (play_ok hr (m + q)).2) ?_)
    rw [wrap_id (by omega) (by omega)]
    exact ih (q + 1) (by omega) (by omega)
theorem riCycle_l1 (hr : isRing l = true) (hc : Cyc (fun n => play n l) m p) (hm : m + p ≤ 10024) {N : Nat} (hN : 1 ≤ N) (hp : N % p = 0) : ∀ d i, i + d = m → Ev (fun k => spec_riCycle.l1 k (play i l) (play (N + i) l) (i : Int)) ((m : Int), (p : Int)) := by
  intro d
  have hpos := hc.pos
  induction d with
  | zero =>
    intro i hi
    obtain rfl : i = m := by omega
    refine Ev.step (fun k => by rw [spec_riCycle.l1]) ?_
    refine Ev.bind (l1Same_ev _ _ (play_ok hr i).1 (by simp only [play_length])) ?_
    have e := (hc.same (g := ringStep) (fun _ => rfl) (show i < N + i by omega)).2 ⟨Nat.le_refl _, by rw [show N + i - i = N from by omega]; exact hp⟩
    rw [decide_eq_true e]
    refine Ev.pos rfl (Ev.bind (riStep_ev _ (play_ok hr i).1 (play_ok hr i).2) ?_)
    exact riCycle_l2 hr hc hm (p - 1) 1 (by omega) (Nat.le_refl _)
  | succ d ih =>
    intro i hi
    refine Ev.step (fun k => by rw [spec_riCycle.l1]) ?_
    refine Ev.bind (l1Same_ev _ _ (play_ok hr i).1 (by simp only [play_length])) ?_
    have e : play i l ≠ play (N + i) l := fun e => by
      have := ((hc.same (g := ringStep) (fun _ => rfl) (show i < N + i by omega)).1 e).1
      omega
    rw [decide_eq_false e]
    refine Ev.neg (by decide) (Ev.bind (riStep_ev _ (play_ok hr i).1 (play_ok hr i).2) (Ev.bind (riStep_ev _ (play_ok hr (N + i)).1 (play_ok hr (N + i)).2) ?_))
    rw [wrap_id (by omega) (by omega)]
    exact ih (i + 1) (by omega)
theorem riCycle_l0 (hr : isRing l = true) (hc : Cyc (fun n => play n l) m p) (hm : m + p ≤ 10024) {v : Nat} (hv : play v l = play (v + v) l) : ∀ d n, n + d = v → 1 ≤ n → Ev (fun k => spec_riCycle.l0 k l (play n l) (play (n + n) l)) ((m : Int), (p : Int)) := by
  intro d
  induction d with
  | zero =>
    intro n hn h1
    obtain rfl : n = v := by omega
    refine Ev.step (fun k => by rw [spec_riCycle.l0]) ?_
    refine Ev.bind (l1Same_ev _ _ (play_ok hr n).1 (by simp only [play_length])) ?_
    rw [decide_eq_true hv]
    refine Ev.pos rfl (Ev.bind (Ev.const (l1Own_eq l (ring_ok hr).1)) ?_)
    have e := ((hc.same (g := ringStep) (fun _ => rfl) (show n < n + n by omega)).1 hv).2
    rw [show n + n - n = n from by omega] at e
    exact riCycle_l1 hr hc hm (N := n + n) (by omega) (by rw [Nat.add_mod, e]; simp) m 0 (by omega)
  | succ d ih =>
    intro n hn h1
    refine Ev.step (fun k => by rw [spec_riCycle.l0]) ?_
    refine Ev.bind (l1Same_ev _ _ (play_ok hr n).1 (by simp only [play_length])) ?_
    by_cases hv2 : play n l = play (n + n) l
    · rw [decide_eq_true hv2]
      refine Ev.pos rfl (Ev.bind (Ev.const (l1Own_eq l (ring_ok hr).1)) ?_)
      have e := ((hc.same (g := ringStep) (fun _ => rfl) (show n < n + n by omega)).1 hv2).2
      rw [show n + n - n = n from by omega] at e
      exact riCycle_l1 hr hc hm (N := n + n) (by omega) (by rw [Nat.add_mod, e]; simp) m 0 (by omega)
    · rw [decide_eq_false hv2]
      refine Ev.neg (by decide) (Ev.bind (riStep_ev _ (play_ok hr n).1 (play_ok hr n).2) (Ev.bind (riPlay_ev (play (n + n) l) 2 (by omega) (play_ok hr (n + n)).1 (play_ok hr (n + n)).2) ?_))
      rw [← play_add, show n + n + 2 = n + 1 + (n + 1) from by omega]
      exact ih (n + 1) (by omega) (by omega)
theorem riCycle_ev (hr : isRing l = true) (hc : Cyc (fun n => play n l) m p) (hm : m + p ≤ 10024) : Ev (fun k => spec_riCycle.f k l) ((m : Int), (p : Int)) := by
  have hpos := hc.pos
  refine Ev.bind (riStep_ev l (ring_ok hr).1 (ring_ok hr).2) (Ev.bind (riPlay_ev l 2 (by omega) (ring_ok hr).1 (ring_ok hr).2) ?_)
  have h1 : 1 ≤ p * (m + 1) := Nat.mul_pos hpos (by omega)
  have h2 : m + 1 ≤ p * (m + 1) := Nat.le_mul_of_pos_left _ hpos
  have hv : play (p * (m + 1)) l = play (p * (m + 1) + p * (m + 1)) l := (hc.same (g := ringStep) (fun _ => rfl) (show p * (m + 1) < p * (m + 1) + p * (m + 1) by omega)).2 ⟨by omega, by rw [Nat.add_sub_cancel, Nat.mul_mod_right]⟩
  exact riCycle_l0 hr hc hm hv (p * (m + 1) - 1) 1 (by omega) (Nat.le_refl _)
end
/-- The first slowest ring. -/
noncomputable def slowStep (s : List Int × Int) (l : List Int) : List Int × Int := if (leadOf l : Int) > s.2 then (l, (leadOf l : Int)) else s
theorem sSlow_l0 (xs : List (List Int)) (hx : ∀ x ∈ xs, isRing x = true) (hl : xs.length ≤ 1000000) : ∀ (post pre : List (List Int)) (s : List Int × Int), pre ++ post = xs → Ev (fun k => spec_SlowestToZero.l0 k s.1 s.2 xs (pre.length : Int)) ((post.foldl slowStep s).1, (post.foldl slowStep s).2, true) := by
  intro post
  induction post with
  | nil =>
    intro pre s e
    refine Ev.step (fun k => by rw [spec_SlowestToZero.l0]) ?_
    rw [List.append_nil] at e
    subst e
    exact Ev.neg (by omega) (Ev.now _)
  | cons x t ih =>
    intro pre s e
    refine Ev.step (fun k => by rw [spec_SlowestToZero.l0]) ?_
    have hlt : pre.length < xs.length := by rw [← e, List.length_append, List.length_cons]; omega
    have hg : xs.getD (pre.length : Int).toNat [] = x := by
      rw [← e, Int.toNat_natCast, List.getD_eq_getElem?_getD, List.getElem?_append_right (Nat.le_refl _), Nat.sub_self]
      rfl
    rw [hg]
    obtain ⟨hc, hm⟩ := ring_cyc' (hx x (by rw [← e]; simp))
    have ih' := fun s' => ih (pre ++ [x]) s' (by rw [List.append_assoc]; exact e)
    simp only [List.length_append, List.length_singleton] at ih'
    refine Ev.pos (by omega) (Ev.pos (by omega) (Ev.bind (riCycle_ev (hx x (by rw [← e]; simp)) hc hm) ?_))
    rw [wrap_id (by omega) (by omega), List.foldl_cons]
    by_cases c : (leadOf x : Int) > s.2
    · refine Ev.pos c ?_
      have h := ih' (x, (leadOf x : Int))
      rw [show slowStep s x = (x, (leadOf x : Int)) from if_pos c]
      exact h
    · refine Ev.neg c ?_
      have h := ih' s
      rw [show slowStep s x = s from if_neg c]
      exact h
theorem odo {σ : Type} (cb : Nat → σ → List Int → Option σ) (step : σ → List Int → σ) (most n : Nat) (hm : most ≤ 1000) (hn : n ≤ 1000) (hcb : ∀ s l, l.length = n → allIn l 0 (most : Int) = true → Ev (fun k => cb k s l) (step s l)) (r : σ) :
    ∀ (m : Nat) (pre : List Int) (s : σ), pre.length + m = n → allIn pre 0 (most : Int) = true → Ev (fun k => impl_listsOf.l1 cb k (n : Int) (most : Int) (pre ++ List.replicate m 0) ((pre.length : Int) - 1) ((allL most m).foldl (fun s y => step s (pre ++ y)) s)) r → Ev (fun k => impl_listsOf.l0 cb k (n : Int) (most : Int) (pre ++ List.replicate m 0) s) r := by
  intro m
  induction m with
  | zero =>
    intro pre s hl hp h
    simp only [List.replicate_zero, List.append_nil, allL, List.foldl_cons, List.foldl_nil] at h ⊢
    refine Ev.step (fun k => by rw [impl_listsOf.l0]) ?_
    refine Ev.bind (hcb s pre (by omega) hp) ?_
    rw [wrap_id (by omega) (by omega), show (n : Int) - 1 = (pre.length : Int) - 1 from by omega]
    exact h
  | succ m ih =>
    intro pre s hl hp h
    have key : ∀ (e d : Nat) (s : σ), d + e = most → Ev (fun k => impl_listsOf.l1 cb k (n : Int) (most : Int) (pre ++ List.replicate (m + 1) 0) ((pre.length : Int) - 1) ((digsFrom (allL most m) (d : Int) (e + 1)).foldl (fun s y => step s (pre ++ y)) s)) r → Ev (fun k => impl_listsOf.l0 cb k (n : Int) (most : Int) (pre ++ (d : Int) :: List.replicate m 0) s) r := by
      intro e
      induction e with
      | zero =>
        intro d s hd h
        have hx := ih (pre ++ [(d : Int)]) s (by simp; omega) (allIn_app hp (allIn_one (by omega) (by omega)))
        rw [List.append_assoc, List.singleton_append] at hx
        refine hx ?_
        simp only [digsFrom, List.append_nil, List.foldl_map] at h
        have hf : (fun s y => step s (pre ++ [(d : Int)] ++ y)) = fun s y => step s (pre ++ (d : Int) :: y) := funext fun s => funext fun y => by rw [List.append_assoc]; rfl
        rw [hf]
        refine Ev.step (fun k => by rw [impl_listsOf.l1]) ?_
        rw [show (((pre ++ [(d : Int)]).length : Nat) : Int) - 1 = (pre.length : Int) from by rw [List.length_append]; simp]
        rw [rd_mid]
        refine Ev.pos (by omega) (Ev.pos (by omega) (Ev.pos (by rw [List.length_append, List.length_cons]; omega) (Ev.pos (by omega) ?_)))
        rw [Int.toNat_natCast, set_app, wrap_id (by omega) (by omega)]
        exact h
      | succ e ihe =>
        intro d s hd h
        have hx := ih (pre ++ [(d : Int)]) s (by simp; omega) (allIn_app hp (allIn_one (by omega) (by omega)))
        rw [List.append_assoc, List.singleton_append] at hx
        refine hx ?_
        have hf : (fun s y => step s (pre ++ [(d : Int)] ++ y)) = fun s y => step s (pre ++ (d : Int) :: y) := funext fun s => funext fun y => by rw [List.append_assoc]; rfl
        rw [hf]
        refine Ev.step (fun k => by rw [impl_listsOf.l1]) ?_
        rw [show (((pre ++ [(d : Int)]).length : Nat) : Int) - 1 = (pre.length : Int) from by rw [List.length_append]; simp]
        rw [rd_mid]
        refine Ev.pos (by omega) (Ev.pos (by omega) (Ev.pos (by rw [List.length_append, List.length_cons]; omega) (Ev.neg (by omega) (Ev.neg (by omega) ?_))))
        rw [Int.toNat_natCast, set_app, wrap_id (by omega) (by omega), show (d : Int) + 1 = ((d + 1 : Nat) : Int) from by omega]
        refine ihe (d + 1) _ (by omega) ?_
        rw [digsFrom, List.foldl_append, List.foldl_map] at h
        exact h
    rw [List.replicate_succ]
    exact key most 0 s (by omega) h
theorem listsOf_ev {σ : Type} (cb : Nat → σ → List Int → Option σ) (step : σ → List Int → σ) (most n : Nat) (hm : most ≤ 1000) (hn : n ≤ 1000) (hcb : ∀ s l, l.length = n → allIn l 0 (most : Int) = true → Ev (fun k => cb k s l) (step s l)) (s0 : σ) :
    Ev (fun k => impl_listsOf.f cb k (n : Int) (most : Int) s0) ((allL most n).foldl step s0) := by
  refine Ev.pos (by omega) (Ev.pos (by omega) ?_)
  rw [Int.toNat_natCast]
  refine odo cb step most n hm hn hcb _ n [] s0 (by simp) rfl ?_
  refine Ev.step (fun k => by rw [impl_listsOf.l1]) ?_
  refine Ev.neg (by simp) (Ev.pos (by simp) ?_)
  exact Ev.now _
theorem within_eq (a b c : Int) : impl_within.f a b c = some (decide (b ≤ a ∧ a ≤ c)) := by
  unfold impl_within.f
  by_cases h : a ≥ b
  · rw [if_pos h]; simp [h]
  · rw [if_neg h]; simp [h]
theorem clone_eq (l : List Int) (hl : l.length ≤ 1048576) : slices_Clone_int_int.f l = some l := by
  unfold slices_Clone_int_int.f
  rw [if_pos (by omega)]
theorem size_eq {x : Int} (h1 : -1000000 ≤ x) (h2 : x ≤ 1000000) : impl_size.f x = some (absd x) := by
  unfold impl_size.f
  rw [wrap_id (by omega) (by omega), mx_eq]
  rfl
theorem tmod_succ' {i n : Nat} (hi : i < n) (hn : n ≤ 1048576) : Int.tmod (wrap64 ((i : Int) + 1)) (n : Int) = (((i + 1) % n : Nat) : Int) := by
  rw [wrap_succ hi (by omega)]
  exact (Int.ofNat_tmod _ _).symm
theorem ringStep_ev (l : List Int) (hl : l.length ≤ 1048576) (hb : allIn l 0 1000000 = true) : Ev (fun k => impl_ringStep.f k l) (ringStep l) := by
  have key := range (n := l.length) (fun (s : List Int) i k => impl_ringStep.l0 k l s l (l.length : Int) i) (fun _ _ => ringStep l) (fun i s => s = (List.range i).map (stepAt l)) (by
    intro s hs
    refine Ev.step (fun k => by rw [impl_ringStep.l0]) ?_
    refine Ev.neg (by omega) ?_
    rw [hs]
    exact Ev.now _) (by
    intro i s hi hs ih
    refine Ev.step (fun k => by rw [impl_ringStep.l0]) ?_
    have hsl : s.length = i := by rw [hs]; simp
    have h1 := allIn_rd hb hi
    have hm := Nat.mod_lt (i + 1) (Nat.lt_of_le_of_lt (Nat.zero_le i) hi)
    have h2 := allIn_rd hb hm
    rw [tmod_succ' hi hl]
    refine Ev.pos (by omega) (Ev.pos (by omega) (Ev.pos (by omega) (Ev.neg (by omega) (Ev.pos (by omega) (Ev.pos (by omega) ?_)))))
    rw [wrap_id (x := rd l (i : Int) - _) (by omega) (by omega), size_eq (by omega) (by omega)]
    refine Ev.some_ (Ev.pos (by omega) ?_)
    rw [wrap_succ hi (by omega)]
    refine ih _ ?_
    rw [List.range_succ, List.map_append, hs]
    rfl)
  exact key 0 [] (by omega) rfl
theorem join_length_le (xs : List (List UInt8)) (sep : List UInt8) (B : Nat) (h : ∀ x ∈ xs, x.length ≤ B) : (Lib.join xs sep).length ≤ (B + sep.length) * xs.length := by
  cases xs with
  | nil => simp [Lib.join]
  | cons x t =>
    rw [Lib.join_cons]
    have h1 := h x List.mem_cons_self
    have h2 : (Lib.joinTail sep t).length ≤ (B + sep.length) * t.length := by
      have : ∀ t : List (List UInt8), (∀ y ∈ t, y.length ≤ B) → (Lib.joinTail sep t).length ≤ (B + sep.length) * t.length := by
        intro t
        induction t with
        | nil => intro _; simp [Lib.joinTail]
        | cons y t ih =>
          intro hh
          have a1 := hh y List.mem_cons_self
          have a2 := ih (fun z hz => hh z (List.mem_cons_of_mem _ hz))
          unfold Lib.joinTail at a2 ⊢
          rw [List.map_cons, List.flatten_cons, List.length_append, List.length_append, List.length_cons, Nat.mul_add]
          omega
      exact this t (fun y hy => h y (List.mem_cons_of_mem _ hy))
    rw [List.length_append, List.length_cons, Nat.mul_add]
    omega
theorem joined_ev (l : List Int) (sep : ByteArray) (hl : l.length ≤ 1000) (hs : sep.size ≤ 10) (hb : allIn l (-9223372036854775808) 9223372036854775807 = true) : Ev (fun k => impl_joined.f k l sep) ⟨(Lib.join (l.map Lib.itoa) sep.data.toList).toArray⟩ := by
  have key := range (n := l.length) (fun (s : List ByteArray) i k => impl_joined.l0 k sep s l (l.length : Int) i) (fun _ _ => (⟨(Lib.join (l.map Lib.itoa) sep.data.toList).toArray⟩ : ByteArray)) (fun i s => s = (l.take i).map fun n => (⟨(Lib.itoa n).toArray⟩ : ByteArray)) (by
    intro s hs'
    refine Ev.step (fun k => by rw [impl_joined.l0]) ?_
    rw [List.take_length] at hs'
    refine Ev.neg (by omega) (Ev.bind (a := (⟨(Lib.join (l.map Lib.itoa) sep.data.toList).toArray⟩ : ByteArray)) (Ev.const ?_) (Ev.now _))
    have hm : s.map (·.data.toList) = l.map Lib.itoa := by
      rw [hs', List.map_map]
      exact List.map_congr_left (fun x _ => rfl)
    have hlen := join_length_le (l.map Lib.itoa) sep.data.toList 21 (fun x hx => by
      obtain ⟨n, hn, rfl⟩ := List.mem_map.1 hx
      have := allIn_iff.1 hb n hn
      exact Lib.itoa_length_le n this.1 this.2)
    rw [List.length_map] at hlen
    have hsz : sep.data.toList.length ≤ 10 := by simpa using hs
    have hmul : (21 + sep.data.toList.length) * l.length ≤ 31 * 1000 := Nat.mul_le_mul (by omega) hl
    unfold strings_Join.f
    rw [hm, if_pos (by rw [hs', List.length_map]; omega), if_pos (by omega)]) (by
    intro i s hi hs' ih
    refine Ev.step (fun k => by rw [impl_joined.l0]) ?_
    have h1 := allIn_rd hb hi
    have hsl : s.length = i := by rw [hs', List.length_map, List.length_take]; omega
    refine Ev.pos (by omega) (Ev.pos (by omega) (Ev.pos (by omega) (Ev.bind (a := (⟨(Lib.itoa (rd l (i : Int))).toArray⟩ : ByteArray)) (Ev.const ?_) (Ev.pos (by omega) ?_))))
    · unfold strconv_Itoa.f
      rw [if_pos h1.1, if_pos h1.2]
    · rw [wrap_succ hi (by omega)]
      refine ih _ ?_
      rw [take_rd hi, List.map_append, hs']
      rfl)
  exact key 0 [] (by omega) rfl
theorem digits_step {u : Nat} (h : ¬ u < 10) : Lib.decDigits u = Lib.decDigits (u / 10) ++ [UInt8.ofNat (48 + u % 10)] := by
  rw [Lib.decDigits, dif_neg h]
theorem digits_one {u : Nat} (h : u < 10) : Lib.decDigits u = [UInt8.ofNat (48 + u)] := by
  rw [Lib.decDigits, dif_pos h]
def numOf (l : List UInt8) : Nat := l.foldl (fun a c => a * 10 + (c.toNat - 48)) 0
theorem digit_toNat {d : Nat} (h : d < 10) : (UInt8.ofNat (48 + d)).toNat = 48 + d := by
  rw [UInt8.toNat_ofNat']
  omega
theorem numOf_digits (u : Nat) : numOf (Lib.decDigits u) = u := by
  induction u using Nat.strongRecOn with
  | _ u ih =>
    by_cases h : u < 10
    · rw [digits_one h]
      simp only [numOf, List.foldl_cons, List.foldl_nil, digit_toNat h]
      omega
    · have e := ih (u / 10) (by omega)
      rw [digits_step h]
      unfold numOf at e ⊢
      rw [List.foldl_append, e, List.foldl_cons, List.foldl_nil, digit_toNat (Nat.mod_lt u (by decide))]
      omega
theorem digits_no (u : Nat) : (45 : UInt8) ∉ Lib.decDigits u := by
  induction u using Nat.strongRecOn with
  | _ u ih =>
    have one : ∀ d, d < 10 → (45 : UInt8) ≠ UInt8.ofNat (48 + d) := by
      intro d hd e
      have := congrArg UInt8.toNat e
      rw [digit_toNat hd] at this
      have h45 : (45 : UInt8).toNat = 45 := rfl
      omega
    by_cases h : u < 10
    · rw [digits_one h]
      intro hm
      exact one u h (List.mem_singleton.1 hm)
    · rw [digits_step h]
      intro hm
      rcases List.mem_append.1 hm with hm | hm
      · exact ih (u / 10) (by omega) hm
      · exact one (u % 10) (Nat.mod_lt u (by decide)) (List.mem_singleton.1 hm)
theorem itoa_digits (u : Nat) : Lib.itoa (u : Int) = Lib.decDigits u := by unfold Lib.itoa; rw [if_neg (by omega)]; simp
theorem itoa_no {x : Int} (h : 0 ≤ x) : (45 : UInt8) ∉ Lib.itoa x := by
  obtain ⟨u, rfl⟩ := Int.eq_ofNat_of_zero_le h
  rw [itoa_digits]
  exact digits_no u
theorem itoa_inj {x y : Int} (h : 0 ≤ x) (h' : 0 ≤ y) (e : Lib.itoa x = Lib.itoa y) : x = y := by
  obtain ⟨u, rfl⟩ := Int.eq_ofNat_of_zero_le h
  obtain ⟨v, rfl⟩ := Int.eq_ofNat_of_zero_le h'
  rw [itoa_digits, itoa_digits] at e
  have := congrArg numOf e
  rw [numOf_digits, numOf_digits] at this
  omega
theorem split45 : ∀ a b : List UInt8, (45 : UInt8) ∉ a → (45 : UInt8) ∉ b → ∀ z z', a ++ 45 :: z = b ++ 45 :: z' → a = b ∧ z = z'
  | [], [], _, _, z, z', e => by simpa using e
  | [], y :: b, _, h2, z, z', e => by
    simp only [List.nil_append, List.cons_append, List.cons.injEq] at e
    exact absurd (by rw [← e.1]; exact List.mem_cons_self) h2
  | x :: a, [], h1, _, z, z', e => by
    simp only [List.nil_append, List.cons_append, List.cons.injEq] at e
    exact absurd (by rw [e.1]; exact List.mem_cons_self) h1
  | x :: a, y :: b, h1, h2, z, z', e => by
    simp only [List.cons_append, List.cons.injEq] at e
    have := split45 a b (fun h => h1 (List.mem_cons_of_mem _ h)) (fun h => h2 (List.mem_cons_of_mem _ h)) z z' e.2
    exact ⟨by rw [e.1, this.1], this.2⟩
theorem tail_inj : ∀ (xs ys : List (List UInt8)) (x y : List UInt8), xs.length = ys.length → (∀ z ∈ x :: xs, (45 : UInt8) ∉ z) → (∀ z ∈ y :: ys, (45 : UInt8) ∉ z) → x ++ Lib.joinTail [45] xs = y ++ Lib.joinTail [45] ys → x :: xs = y :: ys
  | [], [], x, y, _, _, _, e => by simpa [Lib.joinTail] using e
  | [], _ :: _, _, _, h, _, _, _ => by simp at h
  | _ :: _, [], _, _, h, _, _, _ => by simp at h
  | x2 :: xs, y2 :: ys, x, y, h, h1, h2, e => by
    have t : ∀ a r, Lib.joinTail [45] (a :: r) = 45 :: (a ++ Lib.joinTail [45] r) := fun a r => by simp [Lib.joinTail]
    rw [t, t] at e
    have := split45 x y (h1 x List.mem_cons_self) (h2 y List.mem_cons_self) _ _ e
    rw [this.1, tail_inj xs ys x2 y2 (by simpa using h) (fun z hz => h1 z (List.mem_cons_of_mem _ hz)) (fun z hz => h2 z (List.mem_cons_of_mem _ hz)) this.2]
theorem map_inj {α β : Type} {f : α → β} : ∀ l m : List α, (∀ x ∈ l, ∀ y ∈ m, f x = f y → x = y) → l.map f = m.map f → l = m
  | [], [], _, _ => rfl
  | [], _ :: _, _, e => by simp at e
  | _ :: _, [], _, e => by simp at e
  | x :: l, y :: m, h, e => by
    simp only [List.map_cons, List.cons.injEq] at e
    rw [h x List.mem_cons_self y List.mem_cons_self e.1, map_inj l m (fun a ha b hb => h a (List.mem_cons_of_mem _ ha) b (List.mem_cons_of_mem _ hb)) e.2]
def keyTo (u : List Int) : ByteArray := ⟨(Lib.join (u.map Lib.itoa) [45]).toArray⟩
theorem keyTo_inj {u v : List Int} {b : Int} (h1 : allIn u 0 b = true) (h2 : allIn v 0 b = true) (hl : u.length = v.length) (e : keyTo u = keyTo v) : u = v := by
  have e : Lib.join (u.map Lib.itoa) [45] = Lib.join (v.map Lib.itoa) [45] := by
    unfold keyTo at e
    injection e with e
    have := congrArg Array.toList e
    simpa using this
  cases u with
  | nil => cases v with
    | nil => rfl
    | cons y v => simp at hl
  | cons x u => cases v with
    | nil => simp at hl
    | cons y v =>
      rw [List.map_cons, List.map_cons, Lib.join_cons, Lib.join_cons] at e
      have no : ∀ w : List Int, allIn w 0 b = true → ∀ z ∈ w.map Lib.itoa, (45 : UInt8) ∉ z := by
        intro w hw z hz
        obtain ⟨n, hn, rfl⟩ := List.mem_map.1 hz
        exact itoa_no (allIn_iff.1 hw n hn).1
      have := tail_inj (u.map Lib.itoa) (v.map Lib.itoa) (Lib.itoa x) (Lib.itoa y) (by simpa using hl) (no (x :: u) h1) (no (y :: v) h2) e
      exact map_inj (f := Lib.itoa) (x :: u) (y :: v) (fun a ha c hc e => itoa_inj (allIn_iff.1 h1 a ha).1 (allIn_iff.1 h2 c hc).1 e) this
theorem posOf_map (f : Nat → ByteArray) (s : ByteArray) : ∀ (n a i : Nat), i < n → (∀ j, j < i → f (a + j) ≠ s) → f (a + i) = s → posOf s ((List.range' a n).map f) = i
  | 0, _, _, h, _, _ => by omega
  | n + 1, a, i, h, h1, h2 => by
    rw [List.range'_succ, List.map_cons]
    unfold posOf
    cases i with
    | zero => rw [if_pos (by simpa using h2)]
    | succ i =>
      rw [if_neg (by simpa using h1 0 (by omega)), posOf_map f s n (a + 1) i (by omega) (fun j hj => by have := h1 (j + 1) (by omega); rwa [show a + (j + 1) = a + 1 + j from by omega] at this) (by rw [show a + 1 + i = a + (i + 1) from by omega]; exact h2)]
section
variable {l : List Int} {m p : Nat}
theorem ringCycle_l0 (hr : isRing l = true) (hc : Cyc (fun n => play n l) m p) (hm : m + p ≤ 10024) : ∀ d n, n + d = m + p → Ev (fun k => impl_ringCycle.l0 k ((List.range n).map (fun i => keyTo (play i l))) ((List.range n).map (fun i => play i l)) (play n l)) ((List.range (m + p)).map (fun i => play i l), (m : Int)) := by
  have hpos := hc.pos
  have hsmall : ∀ n, (play n l).length ≤ 1000 ∧ allIn (play n l) (-9223372036854775808) 9223372036854775807 = true := fun n => by
    have := isRing_len (play_isRing hr n)
    exact ⟨by omega, allIn_mono this.2.2 (by decide) (by decide)⟩
  have hsz : ∀ n, (keyTo (play n l)).size ≤ 140737488355328 := fun n => by
    have h := join_length_le ((play n l).map Lib.itoa) [45] 21 (fun x hx => by
      obtain ⟨y, hy, rfl⟩ := List.mem_map.1 hx
      have := allIn_iff.1 (hsmall n).2 y hy
      exact Lib.itoa_length_le y this.1 this.2)
    rw [List.length_map] at h
    have h2 : (keyTo (play n l)).size = (Lib.join ((play n l).map Lib.itoa) [45]).length := by unfold keyTo; simp [ByteArray.size]
    have h3 : (21 + [(45 : UInt8)].length) * (play n l).length ≤ 22 * 1000 := Nat.mul_le_mul (by simp) (hsmall n).1
    omega
  have hinj : ∀ i j, keyTo (play i l) = keyTo (play j l) → play i l = play j l := fun i j e => keyTo_inj (isRing_len (play_isRing hr i)).2.2 (isRing_len (play_isRing hr j)).2.2 (by simp only [play_length]) e
  intro d
  induction d with
  | zero =>
    intro n hn
    obtain rfl : n = m + p := by omega
    refine Ev.step (fun k => by rw [impl_ringCycle.l0]) ?_
    refine Ev.bind (a := keyTo (play (m + p) l)) (joined_ev _ ⟨#[45]⟩ (hsmall _).1 (by decide) (hsmall _).2) (Ev.pos (hsz _) ?_)
    have hb : play (m + p) l = play m l := hc.back
    refine Ev.pos (List.mem_map.2 ⟨m, List.mem_range.2 (by omega), by rw [hb]⟩) ?_
    rw [List.range_eq_range', posOf_map (fun i => keyTo (play i l)) (keyTo (play (m + p) l)) (m + p) 0 m (by omega) (fun j hj e => hc.apart j m hj (by omega) (by rw [Nat.zero_add] at e; rw [← hb]; exact hinj _ _ e)) (by rw [Nat.zero_add, hb])]
    exact Ev.now _
  | succ d ih =>
    intro n hn
    refine Ev.step (fun k => by rw [impl_ringCycle.l0]) ?_
    refine Ev.bind (a := keyTo (play n l)) (joined_ev _ ⟨#[45]⟩ (hsmall _).1 (by decide) (hsmall _).2) (Ev.pos (hsz _) ?_)
    refine Ev.neg (fun h => ?_) (Ev.pos (by simp; omega) (Ev.bind (ringStep_ev _ (play_ok hr n).1 (play_ok hr n).2) ?_))
    · obtain ⟨i, hi, e⟩ := List.mem_map.1 h
      exact hc.apart i n (List.mem_range.1 hi) (by omega) (hinj _ _ e)
    · have := ih (n + 1) (by omega)
      rw [List.range_succ, List.map_append, List.map_append] at this
      exact this
theorem ringCycle_ev (hr : isRing l = true) (hc : Cyc (fun n => play n l) m p) (hm : m + p ≤ 10024) : Ev (fun k => impl_ringCycle.f k l) ((List.range (m + p)).map (fun i => play i l), (m : Int)) := by
  refine Ev.bind (Ev.const (clone_eq l (ring_ok hr).1)) ?_
  exact ringCycle_l0 hr hc hm (m + p) 0 (by omega)
end
theorem max_ev (l : List Int) (h : l ≠ []) (hl : l.length ≤ 1048576) : Ev (fun k => slices_Max_int_int.f k l) (lmax l) := by
  have hp : 1 ≤ l.length := List.length_pos_iff.2 h
  have key := range (n := l.length) (fun (s : Int) i k => slices_Max_int_int.l0 k l s i) (fun i s => lmaxF s (l.drop i)) (fun _ _ => True) (by
    intro s _
    refine Ev.step (fun k => by rw [slices_Max_int_int.l0]) ?_
    rw [List.drop_length]
    exact Ev.neg (by omega) (Ev.now _)) (by
    intro i s hi _ ih
    refine Ev.step (fun k => by rw [slices_Max_int_int.l0]) ?_
    refine Ev.pos (by omega) (Ev.pos (by omega) ?_)
    rw [wrap_succ hi (by omega), mx_eq, drop_rd hi]
    exact ih _ trivial)
  refine Ev.neg (by omega) (Ev.pos (by omega) ?_)
  exact key 1 _ hp trivial
theorem rdL_map (f : Nat → List Int) {n m : Nat} (h : m < n) : rd_L1 ((List.range n).map f) (m : Int) = f m := by
  unfold rd_L1
  rw [Int.toNat_natCast, List.getD_eq_getElem?_getD, List.getElem?_map, List.getElem?_range h]
  rfl
theorem stepsToZero_ev {l : List Int} {m p : Nat} (hr : isRing l = true) (hc : Cyc (fun n => play n l) m p) (hm : m + p ≤ 10024) : Ev (fun k => impl_stepsToZero.f k l) (if topF p (play m l) 0 = 0 then (m : Int) else -1) := by
  have hpos := hc.pos
  refine Ev.bind (ringCycle_ev hr hc hm) (Ev.pos (by simp only; omega) (Ev.pos (by simp only [List.length_map, List.length_range]; omega) ?_))
  simp only
  rw [rdL_map _ (by omega)]
  refine Ev.bind (max_ev _ (ring_ne (play_isRing hr m)) (play_ok hr m).1) ?_
  by_cases e : lmax (play m l) > 0
  · rw [if_neg (fun h => (topF_iff (play_isRing hr m) hpos).1 h e)]
    exact Ev.pos e (Ev.now _)
  · rw [if_pos ((topF_iff (play_isRing hr m) hpos).2 e)]
    exact Ev.neg e (Ev.now _)
theorem absd_nonneg {x : Int} (h : 0 ≤ x) : absd x = x := by unfold absd; omega
theorem absd_neg {x : Int} (h : 0 ≤ x) : absd (0 - x) = x := by unfold absd; omega
theorem ring4 (a b c d : Int) : ringStep [a, b, c, d] = [absd (a - b), absd (b - c), absd (c - d), absd (d - a)] := by
  unfold ringStep
  simp [List.range_succ, stepAt, rd]
theorem ring2 (a b : Int) : ringStep [a, b] = [absd (a - b), absd (b - a)] := by
  unfold ringStep
  simp [List.range_succ, stepAt, rd]
theorem four_zero {M : Int} (hM : 0 ≤ M) {a b c d : Int} (ha : two M a) (hb : two M b) (hc : two M c) (hd : two M d) : play 4 [a, b, c, d] = [0, 0, 0, 0] := by
  have e1 : absd (M - M) = 0 := by unfold absd; omega
  have e2 : absd (0 - M) = M := absd_neg hM
  have e3 : absd (M - 0) = M := by rw [Int.sub_zero]; exact absd_nonneg hM
  have e4 : absd ((0 : Int) - 0) = 0 := by decide
  rcases ha with rfl | rfl <;> rcases hb with rfl | rfl <;> rcases hc with rfl | rfl <;> rcases hd with rfl | rfl <;> simp only [play, ring4, e1, e2, e3, e4]
theorem zeros_play {u : List Int} (h : allIn u 0 0 = true) (n : Nat) : allIn (play n u) 0 0 = true := play_allIn h n
theorem small_zero {l : List Int} (h : isRing l = true) (h24 : l.length = 2 ∨ l.length = 4) : ∃ t, allIn (play t l) 0 0 = true := by
  rcases h24 with h2 | h4
  · obtain ⟨a, b, rfl⟩ : ∃ a b, l = [a, b] := by
      match l, h2 with
      | [a, b], _ => exact ⟨a, b, rfl⟩
    refine ⟨2, ?_⟩
    have e : absd (b - a) = absd (a - b) := by unfold absd; omega
    have e0 : absd (absd (a - b) - absd (a - b)) = 0 := by unfold absd; omega
    simp only [play, ring2, e, e0]
    rfl
  · obtain ⟨t, _, M, hM, ht⟩ := down_to_two 1000 l (by omega) (by omega) (isRing_len h).2.2
    have hl := play_length t l
    obtain ⟨a, b, c, d, e⟩ : ∃ a b c d, play t l = [a, b, c, d] := by
      rw [h4] at hl
      match play t l, hl with
      | [a, b, c, d], _ => exact ⟨a, b, c, d, rfl⟩
    have h0 := ht 0 (by omega)
    have h1 := ht 1 (by omega)
    have h2 := ht 2 (by omega)
    have h3 := ht 3 (by omega)
    rw [e] at h0 h1 h2 h3
    refine ⟨t + 4, ?_⟩
    rw [play_add, e, four_zero hM (a := a) (b := b) (c := c) (d := d) h0 h1 h2 h3]
    rfl
theorem small_top {l : List Int} (h : isRing l = true) (h24 : l.length = 2 ∨ l.length = 4) : topF (perOf l) (play (leadOf l) l) 0 = 0 := by
  obtain ⟨t, ht⟩ := small_zero h h24
  obtain ⟨hc, _⟩ := ring_cyc' h
  have hp := hc.pos
  have h1 := hc.red (g := ringStep) (fun _ => rfl) (perOf l * t)
  have h2 : play (leadOf l + perOf l * t) l = play (leadOf l) l := by
    rw [Nat.mul_mod_right, Nat.add_zero] at h1
    exact h1
  refine topF_zero _ _ (play_isRing h _) ?_
  rw [← h2]
  have h3 : t ≤ leadOf l + perOf l * t := by
    have : 1 * t ≤ perOf l * t := Nat.mul_le_mul_right _ hp
    omega
  rw [show leadOf l + perOf l * t = t + (leadOf l + perOf l * t - t) from by omega, play_add]
  exact play_allIn ht _
theorem iSlow_cb (s : List Int × Int) (l : List Int) (hr : isRing l = true) (h24 : l.length = 2 ∨ l.length = 4) : Ev (fun k => SlowestToZero.cb k s l) (slowStep s l) := by
  obtain ⟨hc, hm⟩ := ring_cyc' hr
  refine Ev.neg (ring_ne hr) (Ev.bind (stepsToZero_ev hr hc hm) ?_)
  rw [if_pos (small_top hr h24), clone_eq l (ring_ok hr).1]
  refine Ev.some_ ?_
  by_cases c : (leadOf l : Int) > s.2
  · rw [show slowStep s l = (l, (leadOf l : Int)) from if_pos c]; exact Ev.pos c (Ev.now _)
  · rw [show slowStep s l = s from if_neg c]; exact Ev.neg c (Ev.now _)
theorem slow_ring {n most : Nat} (hn : n = 2 ∨ n = 4) (hm : most ≤ 6) {l : List Int} (h : l ∈ allL most n) : isRing l = true ∧ (l.length = 2 ∨ l.length = 4) := by
  obtain ⟨h1, h2⟩ := allL_ok most n l h
  exact ⟨digits_ring (by omega) (by omega) (by omega) h1 h2, by omega⟩
theorem slow_best {n most : Nat} (hn : n = 2 ∨ n = 4) (hm : most ≤ 6) : ((allL most n).foldl slowStep ([], -1)).1.length ≤ 1048576 :=
  foldl_inv (P := fun s : List Int × Int => s.1.length ≤ 1048576) (by simp) (fun s x hx hs => by
    unfold slowStep
    split
    · have := (slow_ring hn hm hx).2
      show x.length ≤ 1048576
      omega
    · exact hs)
theorem both_SlowestToZero (a b : Int) : ∃ w : List Int × Int × Bool, Ev (fun k => spec_SlowestToZero.f k a b) w ∧ Ev (fun k => impl_SlowestToZero.f k a b) w ∧ w.1.length ≤ 1048576 := by
  by_cases ha : a = 2 ∨ a = 4
  · by_cases hb : 0 ≤ b ∧ b ≤ 6
    · obtain ⟨n, rfl⟩ := Int.eq_ofNat_of_zero_le (show 0 ≤ a by omega)
      obtain ⟨most, rfl⟩ := Int.eq_ofNat_of_zero_le hb.1
      have hn : n = 2 ∨ n = 4 := by omega
      have hm : most ≤ 6 := by omega
      have hlen : (allL most n).length ≤ 1000000 := by
        have key : ∀ (L : List (List Int)) (e : Nat) (d : Int), (digsFrom L d e).length = L.length * e := by
          intro L e
          induction e with
          | zero => intro d; rfl
          | succ e ih => intro d; rw [digsFrom, List.length_append, List.length_map, ih, Nat.mul_succ]; omega
        have h1 : ∀ k, (allL most k).length = (most + 1) ^ k := by
          intro k
          induction k with
          | zero => rfl
          | succ k ih => rw [allL, key, ih, Nat.pow_succ]
        rw [h1]
        have h2 : (most + 1) ^ n ≤ 7 ^ n := Nat.pow_le_pow_left (by omega) n
        have h3 : 7 ^ n ≤ 7 ^ 4 := Nat.pow_le_pow_right (by omega) (by omega)
        omega
      refine ⟨(((allL most n).foldl slowStep ([], -1)).1, ((allL most n).foldl slowStep ([], -1)).2, true), ?_, ?_, slow_best hn hm⟩
      · refine Ev.pos ha (Ev.bind (Ev.const (l1In_eq _ _ _)) ?_)
        rw [decide_eq_true hb]
        refine Ev.pos rfl (Ev.bind (cyAll_ev n most (by omega) hm) ?_)
        exact sSlow_l0 (allL most n) (fun x hx => (slow_ring hn hm hx).1) hlen (allL most n) [] ([], -1) rfl
      · refine Ev.pos ha (Ev.bind (Ev.const (within_eq _ _ _)) ?_)
        rw [decide_eq_true hb]
        exact Ev.pos rfl (Ev.bind (listsOf_ev SlowestToZero.cb slowStep most n (by omega) (by omega) (fun s l hl hal => iSlow_cb s l (digits_ring (by omega) (by omega) (by omega) hl hal) (by omega)) ([], -1)) (Ev.now _))
    · refine ⟨([], 0, false), Ev.pos ha (Ev.bind (Ev.const (l1In_eq _ _ _)) ?_), Ev.pos ha (Ev.bind (Ev.const (within_eq _ _ _)) ?_), by simp⟩ <;> (rw [decide_eq_false hb]; exact Ev.neg (by decide) (Ev.now _))
  · exact ⟨([], 0, false), Ev.neg ha (Ev.now _), Ev.neg ha (Ev.now _), by simp⟩
theorem FnExactSlowestToZero : laws_FnExactSlowestToZero.Pure := by
  intro a0 a1 h0_ h1_
  refine Ev.rounds ?_
  refine Ev.congr (fun k => by rw [laws_FnExactSlowestToZero.f]) ?_
  obtain ⟨w, hS, hI, hW⟩ := both_SlowestToZero a0 a1 
  repeat first
    | (exact Ev.now _)
    | (refine Ev.bind hS ?_)
    | (refine Ev.bind hI ?_)
    | (refine Ev.bind (eqIntS_ev _ _ ?_ rfl) ?_; next => (first | assumption | exact hW | exact hW.1 | exact hW.2))
    | (refine Ev.bind (markIntS_ev _ 1 ?_ (by decide) (by decide)) ?_; next => (first | assumption | exact hW | exact hW.1 | exact hW.2))
    | (refine Ev.bind (markIntS_ev _ _ ?_ ?_ ?_) ?_; (next => (first | assumption | exact hW | exact hW.1 | exact hW.2)); (next => (first | omega | (dsimp only; omega))); (next => (first | omega | (dsimp only; omega))))
    | (refine Ev.bind (heldIntS_ev _ 1 ?_ (by decide) (by decide)) ?_; next => (first | assumption | exact hW | exact hW.1 | exact hW.2))
    | (refine Ev.pos ?_ ?_; next => (first | rfl | decide | omega | (dsimp only; omega) | (simp; done)))
    | (refine Ev.neg ?_ ?_; next => (first | decide | omega | (dsimp only; omega) | (simp; done)))
    | (refine Ev.step (fun k => by rw [laws_FnExactSlowestToZero.j0]) ?_)
    | (refine Ev.step (fun k => by rw [laws_FnExactSlowestToZero.j1]) ?_)

end Go.Proofs.YtffhhhkdnkdlgaaDoor.Pure
