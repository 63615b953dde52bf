/- What is proved here: the pure statement of the law FnExactHasRingBefore: for every input the law, as the print tells it, answers true. No condition. (The row that follows from it says it of the Go program.) -/
import Derived.Test.YtdiobgmdmeomjaaPFnExactHasRingBeforex7
import Derived.Test.YtdiobgmdmeomjaaBase
set_option linter.unusedSimpArgs false
set_option linter.unusedVariables false
namespace Go.Proofs.Ytdiobgmdmeomjaa.Pure
open Go.RowKit Go.Proofs.Ytdiobgmdmeomjaa.PFnExactHasRingBefore Go.Proofs.YtdiobgmdmeomjaaW.PrintWords Go.Proofs.YtdiobgmdmeomjaaW.PrintLast Go.Proofs.Ytdiobgmdmeomjaa.Base

theorem toIntS_ev (l : List Int) (hl : l.length ≤ 1048576) : Ev (fun k => laws_toIntS.f k l) l := by
  have key := range (n := l.length) (fun (s : List Int) i k => laws_toIntS.l0 k l s i) (fun _ _ => l) (fun i s => s.length = l.length ∧ s.take i = l.take i) (by
    intro s ⟨h1, h2⟩
    refine Ev.step (fun k => by rw [laws_toIntS.l0]) ?_
    refine Ev.neg (by omega) ?_
    rw [List.take_of_length_le (by omega), List.take_of_length_le (by omega)] at h2
    rw [h2]
    exact Ev.now _) (by
    intro i s hi ⟨h1, h2⟩ ih
    refine Ev.step (fun k => by rw [laws_toIntS.l0]) ?_
    refine Ev.pos (by omega) (Ev.pos (by omega) (Ev.pos (by omega) ?_))
    rw [wrap_succ hi (by omega), Int.toNat_natCast]
    refine ih _ ⟨by simpa using h1, ?_⟩
    have hs : i < s.length := by omega
    rw [take_rd hi, ← h2, List.take_succ_eq_append_getElem (by simpa using hs), List.take_set_of_le (Nat.le_refl _)]
    simp)
  refine Ev.pos (by omega) (Ev.pos (by omega) ?_)
  rw [Int.toNat_natCast]
  exact key 0 _ (by omega) ⟨by simp, rfl⟩
theorem eqIntS_ev (l m : List Int) (hl : l.length ≤ 1048576) (h : l = m) : Ev (fun k => laws_eqIntS.f k l m) true := by
  subst h
  have key := range (n := l.length) (fun (_ : Unit) i k => laws_eqIntS.l0 k l l i) (fun _ _ => true) (fun _ _ => True) (by
    intro s _
    refine Ev.step (fun k => by rw [laws_eqIntS.l0]) ?_
    exact Ev.neg (by omega) (Ev.now _)) (by
    intro i s hi _ ih
    refine Ev.step (fun k => by rw [laws_eqIntS.l0]) ?_
    refine Ev.pos (by omega) (Ev.pos (by omega) (Ev.pos (by omega) (Ev.pos rfl ?_)))
    rw [wrap_succ hi (by omega)]
    exact ih s trivial)
  exact Ev.pos rfl (key 0 () (by omega) trivial)
theorem l1In_eq (a b c : Int) : spec_l1In.f a b c = some (decide (b ≤ a ∧ a ≤ c)) := by
  unfold spec_l1In.f
  by_cases h : a ≥ b
  · rw [if_pos h]; simp [h]
  · rw [if_neg h]; simp [h]
theorem l1All_ev (l : List Int) (a b : Int) (hl : l.length ≤ 1048576) : Ev (fun k => spec_l1All.f k l a b) (l.all fun x => decide (a ≤ x ∧ x ≤ b)) := by
  have key := range (n := l.length) (fun (_ : Unit) i k => spec_l1All.l0 k a b l (l.length : Int) i) (fun i _ => (l.drop i).all fun x => decide (a ≤ x ∧ x ≤ b)) (fun _ _ => True) (by
    intro s _
    refine Ev.step (fun k => by rw [spec_l1All.l0]) ?_
    rw [List.drop_length]
    exact Ev.neg (by omega) (Ev.now _)) (by
    intro i s hi _ ih
    refine Ev.step (fun k => by rw [spec_l1All.l0]) ?_
    refine Ev.pos (by omega) (Ev.pos (by omega) (Ev.pos (by omega) ?_))
    rw [l1In_eq, drop_rd hi, List.all_cons]
    refine Ev.some_ ?_
    cases h : decide (a ≤ rd l (i : Int) ∧ rd l (i : Int) ≤ b) with
    | true =>
      refine Ev.pos rfl ?_
      rw [wrap_succ hi (by omega), Bool.true_and]
      exact ih () trivial
    | false => exact Ev.neg (by decide) (Ev.now _))
  exact key 0 () (by omega) trivial
theorem riGood_ev (l : List Int) (hl : l.length ≤ 1048576) : Ev (fun k => spec_riGood.f k l) (isRing l) := by
  refine Ev.congr (fun k => by rw [spec_riGood.f, l1In_eq]) ?_
  refine Ev.some_ ?_
  unfold isRing
  by_cases h : (2 : Int) ≤ (l.length : Int) ∧ (l.length : Int) ≤ 10
  · refine Ev.pos (decide_eq_true h) ?_
    rw [decide_eq_true h, Bool.true_and]
    exact Ev.bind (l1All_ev l 0 1000 hl) (Ev.now _)
  · refine Ev.neg (by simpa using h) ?_
    rw [decide_eq_false h, Bool.false_and]
    exact Ev.now _
theorem l1Most_eq (a b : Int) : spec_l1Most.f a b = some (max a b) := by
  unfold spec_l1Most.f
  split <;> congr 1 <;> omega
theorem riMost_ev (l : List Int) (hl : l.length ≤ 1048576) (h : l ≠ []) (h0 : allIn l 0 1000000 = true) : Ev (fun k => spec_riMost.f k l) (lmax l) := by
  have key := range (n := l.length) (fun (s : Int) i k => spec_riMost.l0 k s l (l.length : Int) i) (fun i s => lmaxF s (l.drop i)) (fun _ _ => True) (by
    intro s _
    refine Ev.step (fun k => by rw [spec_riMost.l0]) ?_
    rw [List.drop_length]
    exact Ev.neg (by omega) (Ev.now _)) (by
    intro i s hi _ ih
    refine Ev.step (fun k => by rw [spec_riMost.l0]) ?_
    refine Ev.pos (by omega) (Ev.pos (by omega) (Ev.pos (by omega) ?_))
    rw [l1Most_eq, wrap_succ hi (by omega), drop_rd hi]
    exact Ev.some_ (ih _ trivial))
  have := key 0 0 (by omega) trivial
  rw [List.drop_zero, lmaxF_zero h (fun x hx => (allIn_iff.1 h0 x hx).1)] at this
  exact this
theorem l1Same_ev (l m : List Int) (hl : l.length ≤ 1048576) (h : l.length = m.length) : Ev (fun k => spec_l1Same.f k l m) (decide (l = m)) := by
  have key := range (n := l.length) (fun (_ : Unit) i k => spec_l1Same.l0 k l m (l.length : Int) i) (fun i _ => decide (l.drop i = m.drop i)) (fun _ _ => True) (by
    intro s _
    refine Ev.step (fun k => by rw [spec_l1Same.l0]) ?_
    refine Ev.neg (by omega) ?_
    rw [List.drop_length, h, List.drop_length]
    exact Ev.now _) (by
    intro i s hi _ ih
    refine Ev.step (fun k => by rw [spec_l1Same.l0]) ?_
    refine Ev.pos (by omega) (Ev.pos (by omega) (Ev.pos (by omega) (Ev.pos (by omega) ?_)))
    by_cases e : rd l (i : Int) = rd m (i : Int)
    · refine Ev.pos e ?_
      have : decide (l.drop i = m.drop i) = decide (l.drop (i + 1) = m.drop (i + 1)) := by
        rw [drop_rd hi, drop_rd (l := m) (by omega), e]
        simp
      rw [this, wrap_succ hi (by omega)]
      exact ih () trivial
    · refine Ev.neg e ?_
      have : decide (l.drop i = m.drop i) = false := by
        rw [drop_rd hi, drop_rd (l := m) (by omega)]
        simp [e]
      rw [this]
      exact Ev.now _)
  refine Ev.pos (by omega) ?_
  have := key 0 () (by omega) trivial
  simpa using this
theorem rb_wrapk (x : Nat) (h : x < 9223372036854775808) : IntKind.i64.wrap (x : Int) = (x : Int) := by
  have hm : (x : Int) % (2 ^ IntKind.i64.bits : Int) = (x : Int) := Int.emod_eq_of_lt (by omega) (by show (x : Int) < 2 ^ 64; omega)
  have hs : ¬ (x : Int) ≥ (2 ^ (IntKind.i64.bits - 1) : Int) := by
    show ¬ (x : Int) ≥ (2 ^ 63 : Int)
    omega
  unfold IntKind.wrap
  simp only [hm, decide_eq_false hs, Bool.and_false]
  exact if_neg (by decide)
theorem rb_bits_and (a b : Nat) (ha : a < 9223372036854775808) (hb : b < 9223372036854775808) : Go.bits .and .i64 (a : Int) (b : Int) = ((a &&& b : Nat) : Int) := by
  have e1 : BitVec.ofInt IntKind.i64.bits (a : Int) = BitVec.ofNat 64 a := BitVec.ofInt_natCast 64 a
  have e2 : BitVec.ofInt IntKind.i64.bits (b : Int) = BitVec.ofNat 64 b := BitVec.ofInt_natCast 64 b
  have e3 : (BitVec.ofNat 64 a &&& BitVec.ofNat 64 b).toNat = a &&& b := by
    rw [BitVec.toNat_and, BitVec.toNat_ofNat, BitVec.toNat_ofNat, Nat.mod_eq_of_lt (by omega), Nat.mod_eq_of_lt (by omega)]
  have hle : a &&& b ≤ a := Nat.and_le_left
  unfold Go.bits
  simp only [e1, e2]
  have := rb_wrapk (a &&& b) (by omega)
  rw [← this]
  exact congrArg (fun z : Nat => IntKind.i64.wrap (z : Int)) e3
theorem rb_bit (P i : Nat) (hi : i ≤ 64) (hP : P < 9223372036854775808) : Go.bits .and .i64 (shr .i64 (P : Int) (i : Int)) 1 = ((P / 2 ^ i % 2 : Nat) : Int) := by
  have e : shr .i64 (P : Int) (i : Int) = ((P / 2 ^ i : Nat) : Int) := by
    unfold shr
    rw [Int.toNat_natCast, Nat.min_eq_left (show i ≤ IntKind.i64.bits from hi)]
    norm_cast
  rw [e]
  have h1 : P / 2 ^ i ≤ P := Nat.div_le_self _ _
  have := rb_bits_and (P / 2 ^ i) 1 (by omega) (by omega)
  rw [Nat.and_one_is_mod] at this
  exact this
/-- A number with the sign that bit i of T tells. -/
def rbSg (T i : Nat) (x : Int) : Int := if T / 2 ^ i % 2 = 1 then -x else x
/-- The sums ahead of each number. -/
def rbS (T : Nat) : Int → Nat → List Int → List Int
  | _, _, [] => []
  | s, i, x :: t => s :: rbS T (s + rbSg T i x) (i + 1) t
def rbT (T : Nat) : Int → Nat → List Int → Int
  | s, _, [] => s
  | s, i, x :: t => rbT T (s + rbSg T i x) (i + 1) t
theorem rbS_length (T : Nat) : ∀ (l : List Int) (s : Int) (i : Nat), (rbS T s i l).length = l.length
  | [], _, _ => rfl
  | x :: t, s, i => by rw [rbS, List.length_cons, List.length_cons, rbS_length T t]
theorem rbSg_abs {T i : Nat} {x : Int} (h : 0 ≤ x ∧ x ≤ 100) : -100 ≤ rbSg T i x ∧ rbSg T i x ≤ 100 := by
  unfold rbSg
  split <;> omega
theorem rbS_near (T : Nat) : ∀ (l : List Int) (s : Int) (i : Nat), allIn l 0 100 = true → ∀ y ∈ rbS T s i l, ∀ z ∈ rbS T s i l, y - z ≤ 100 * (l.length : Int) ∧ z - y ≤ 100 * (l.length : Int) ∧ (y - s ≤ 100 * ((l.length : Int) - 1) ∧ s - y ≤ 100 * ((l.length : Int) - 1)) ∧ y - z ≤ 100 * ((l.length : Int) - 1)
  | [], _, _, _, y, hy, _, _ => by cases hy
  | x :: t, s, i, h, y, hy, z, hz => by
    have hx := rbSg_abs (T := T) (i := i) (allIn_iff.1 h x List.mem_cons_self)
    have ht : allIn t 0 100 = true := allIn_iff.2 fun u hu => allIn_iff.1 h u (List.mem_cons_of_mem _ hu)
    have ih := rbS_near T t (s + rbSg T i x) (i + 1) ht
    rw [rbS] at hy hz
    simp only [List.length_cons, Int.natCast_add, Int.natCast_one]
    rcases List.mem_cons.1 hy with rfl | hy <;> rcases List.mem_cons.1 hz with rfl | hz
    · omega
    · have := ih z hz z hz; omega
    · have := ih y hy y hy; omega
    · have := ih y hy z hz; have := ih z hz y hy; have := ih y hy y hy; omega
/-- The ring with a 0 that the signs of T tell. -/
def rbRow (T : Nat) (l : List Int) : List Int := (rbS T 0 0 l).map fun x => x - lminF 0 (rbS T 0 0 l)
theorem rbRow_length (T : Nat) (l : List Int) : (rbRow T l).length = l.length := by rw [rbRow, List.length_map, rbS_length]
/-- The rings that come so, of the first signs. -/
def rbRows (l : List Int) : Nat → List (List Int)
  | 0 => []
  | T + 1 => rbRows l T ++ if rbT T 0 0 l = 0 then [rbRow T l] else []
theorem rbRows_length (l : List Int) : ∀ N, (rbRows l N).length ≤ N
  | 0 => Nat.le_refl _
  | T + 1 => by have := rbRows_length l T; rw [rbRows, List.length_append]; split <;> simp <;> omega
theorem rbRows_row (l : List Int) : ∀ N, ∀ u ∈ rbRows l N, ∃ T, u = rbRow T l
  | 0, u, h => by cases h
  | T + 1, u, h => by
    rw [rbRows, List.mem_append] at h
    rcases h with h | h
    · exact rbRows_row l T u h
    · split at h
      · exact ⟨T, List.mem_singleton.1 h⟩
      · cases h
theorem lminF_snoc (x : Int) : ∀ (l : List Int) (a : Int), lminF a (l ++ [x]) = min (lminF a l) x
  | [], _ => rfl
  | y :: t, a => by
    show lminF (min a y) (t ++ [x]) = _
    rw [lminF_snoc x t]
    rfl
theorem rdL_before {l : List (List Int)} {i : Nat} (h : i < l.length) : rd_L1 l (i : Int) = l[i] := by
  unfold rd_L1
  rw [Int.toNat_natCast, List.getD_eq_getElem?_getD, List.getElem?_eq_getElem h]
  rfl
theorem rb_fin_length (xs : List (List Int)) : (xs.foldl (fun acc o => RB.ins o acc) []).length ≤ xs.length := by
  have h1 : ∀ (o : List Int) (l : List (List Int)), (RB.ins o l).length ≤ l.length + 1 := by
    intro o l
    induction l with
    | nil => simp [RB.ins]
    | cons x t ih => rw [RB.ins]; split <;> (try split) <;> simp <;> omega
  have : ∀ (xs acc : List (List Int)), (xs.foldl (fun acc o => RB.ins o acc) acc).length ≤ acc.length + xs.length := by
    intro xs
    induction xs with
    | nil => intro acc; simp
    | cons x t ih => intro acc; have := ih (RB.ins x acc); have := h1 x acc; simp only [List.foldl_cons, List.length_cons]; omega
  have := this xs []
  simpa using this
theorem rb_fin_snoc (xs : List (List Int)) (o : List Int) : RB.fin (xs ++ [o]) = RB.ins o (RB.fin xs) := by simp [RB.fin, List.foldl_append]
theorem riLess_ev (a b : List Int) (ha : a.length ≤ 1048576) (h : a.length = b.length) : Ev (fun k => spec_riLess.f k a b) (decide (RB.cmp a b < 0)) := by
  have key := range (n := a.length) (fun (_ : Unit) i k => spec_riLess.l0 k a b (a.length : Int) i) (fun i _ => decide (RB.cmp (a.drop i) (b.drop i) < 0)) (fun _ _ => True) (by
    intro s _
    refine Ev.step (fun k => by rw [spec_riLess.l0]) ?_
    rw [List.drop_length, List.drop_of_length_le (by omega)]
    exact Ev.neg (by omega) (Ev.now _)) (by
    intro i s hi _ ih
    refine Ev.step (fun k => by rw [spec_riLess.l0]) ?_
    refine Ev.pos (by omega) (Ev.pos (by omega) (Ev.pos (by omega) (Ev.pos (by omega) ?_)))
    have hb : i < b.length := by omega
    rw [drop_rd hi, drop_rd hb, RB.cmp]
    by_cases e : rd a (i : Int) = rd b (i : Int)
    · refine Ev.pos e ?_
      rw [wrap_succ hi (by omega), if_neg (by omega), if_neg (by omega)]
      exact ih () trivial
    · refine Ev.neg e ?_
      by_cases c : rd a (i : Int) < rd b (i : Int)
      · rw [if_pos c, decide_eq_true c]; exact Ev.now _
      · rw [if_neg c, if_pos (by omega), decide_eq_false c]; exact Ev.now _)
  exact key 0 () (by omega) trivial
theorem rb_spec_l4 (l o : List Int) (acc : List (List Int)) (T : Nat) (r : List (List Int)) (ho : o.length ≤ 1048576) (ha : ∀ x ∈ acc, x.length = o.length) (hl : acc.length ≤ 1048576) (hend : Ev (fun k => spec_riBefore.l0 k l (RB.ins o acc) (wrap64 ((T : Int) + 1))) r) :
    Ev (fun k => spec_riBefore.l4 k l acc (T : Int) o 0) r := by
  have key := range (n := acc.length) (fun (_ : Unit) i k => spec_riBefore.l4 k l acc (T : Int) o i) (fun _ _ => r) (fun i _ => RB.ins o acc = acc.take i ++ RB.ins o (acc.drop i)) (by
    intro s hs
    refine Ev.step (fun k => by rw [spec_riBefore.l4]) ?_
    refine Ev.neg (by omega) (Ev.pos rfl (Ev.pos (by omega) ?_))
    rw [List.drop_length, RB.ins] at hs
    rw [hs] at hend
    rw [Int.toNat_natCast, List.drop_length, List.append_nil]
    exact hend) (by
    intro i s hi hs ih
    refine Ev.step (fun k => by rw [spec_riBefore.l4]) ?_
    refine Ev.pos (by omega) (Ev.pos (by omega) ?_)
    have hd : acc.drop i = acc[i] :: acc.drop (i + 1) := List.drop_eq_getElem_cons hi
    have hlen := ha acc[i] (List.getElem_mem hi)
    rw [rdL_before hi]
    refine Ev.bind (riLess_ev acc[i] o (by omega) hlen) ?_
    rw [hd, RB.ins] at hs
    by_cases c : RB.cmp acc[i] o < 0
    · rw [decide_eq_true c]
      refine Ev.pos rfl ?_
      rw [wrap_succ hi (by omega)]
      refine ih () ?_
      rw [hs, if_pos c, List.take_succ_eq_append_getElem hi, List.append_assoc, List.singleton_append]
    · rw [decide_eq_false c]
      rw [if_neg c] at hs
      refine Ev.neg (by decide) (Ev.bind (l1Same_ev acc[i] o (by omega) hlen) ?_)
      by_cases e : acc[i] = o
      · rw [decide_eq_true e]
        refine Ev.pos rfl ?_
        rw [if_pos e, ← hd, List.take_append_drop] at hs
        rw [hs] at hend
        exact hend
      · rw [decide_eq_false e]
        refine Ev.neg (by decide) (Ev.pos (by omega) ?_)
        rw [if_neg e, ← hd] at hs
        rw [hs] at hend
        rw [Int.toNat_natCast, List.append_assoc, List.singleton_append]
        exact hend)
  exact key 0 () (by omega) (by simp)
theorem rb_spec_l3 (l S : List Int) (acc : List (List Int)) (T : Nat) (M : Int) (r : List (List Int)) (hS : S.length ≤ 1048576) (hb : ∀ x ∈ S, -1000000 ≤ x - M ∧ x - M ≤ 1000000) (hend : Ev (fun k => spec_riBefore.l4 k l acc (T : Int) (S.map fun x => x - M) 0) r) :
    Ev (fun k => spec_riBefore.l3 k l acc (T : Int) M [] S (S.length : Int) 0) r := by
  have key := range (n := S.length) (fun (o : List Int) i k => spec_riBefore.l3 k l acc (T : Int) M o S (S.length : Int) i) (fun _ _ => r) (fun i o => o = (S.take i).map fun x => x - M) (by
    intro o ho
    refine Ev.step (fun k => by rw [spec_riBefore.l3]) ?_
    rw [List.take_length] at ho
    rw [ho]
    exact Ev.neg (by omega) hend) (by
    intro i o hi ho ih
    refine Ev.step (fun k => by rw [spec_riBefore.l3]) ?_
    have hm := hb _ (rd_mem hi)
    have hlen : o.length ≤ S.length := by rw [ho, List.length_map, List.length_take]; omega
    refine Ev.pos (by omega) (Ev.pos (by omega) (Ev.pos (by omega) (Ev.pos (by omega) ?_)))
    rw [wrap_succ hi (by omega), wrap_id (x := rd S (i : Int) - M) (by omega) (by omega)]
    exact ih _ (by rw [ho, take_rd hi, List.map_append]; rfl))
  exact key 0 [] (by omega) (by simp)
theorem rb_spec_l2 (l v : List Int) (acc : List (List Int)) (T : Nat) (r : List (List Int)) (hv : v.length ≤ 1048576) (hn : l.length ≤ v.length) (hend : Ev (fun k => spec_riBefore.l3 k l acc (T : Int) (lminF 0 v) [] (v.take l.length) ((v.take l.length).length : Int) 0) r) :
    Ev (fun k => spec_riBefore.l2 k l acc (T : Int) v 0 v (v.length : Int) 0) r := by
  have key := range (n := v.length) (fun (m : Int) i k => spec_riBefore.l2 k l acc (T : Int) v m v (v.length : Int) i) (fun _ _ => r) (fun i m => lminF m (v.drop i) = lminF 0 v) (by
    intro m hm
    refine Ev.step (fun k => by rw [spec_riBefore.l2]) ?_
    rw [List.drop_length] at hm
    refine Ev.neg (by omega) (Ev.pos (by omega) (Ev.pos (by omega) (Ev.some_ ?_)))
    rw [show m = lminF 0 v from hm, Int.toNat_natCast]
    exact hend) (by
    intro i m hi hm ih
    refine Ev.step (fun k => by rw [spec_riBefore.l2]) ?_
    refine Ev.pos (by omega) (Ev.pos (by omega) (Ev.pos (by omega) ?_))
    have e : spec_l1Least.f m (rd v (i : Int)) = some (min m (rd v (i : Int))) := by
      unfold spec_l1Least.f
      split <;> (congr 1; omega)
    rw [e]
    refine Ev.some_ ?_
    rw [wrap_succ hi (by omega)]
    refine ih _ ?_
    rw [drop_rd hi] at hm
    exact hm)
  exact key 0 0 (by omega) (by simp)
theorem rb_spec_l1 (l : List Int) (hl : l.length ≤ 10) (acc : List (List Int)) (T : Nat) (hT : T ≤ 1024) (r : List (List Int))
    (hz : rbT T 0 0 l = 0 → Ev (fun k => spec_riBefore.l2 k l acc (T : Int) (rbS T 0 0 l ++ [0]) 0 (rbS T 0 0 l ++ [0]) ((rbS T 0 0 l ++ [0]).length : Int) 0) r)
    (hn : rbT T 0 0 l ≠ 0 → Ev (fun k => spec_riBefore.l0 k l acc (wrap64 ((T : Int) + 1))) r) :
    ∀ (post pre u : List Int) (s : Int), pre ++ post = l → allIn post 0 100 = true → u.length = pre.length → -(100 * (pre.length : Int)) ≤ s ∧ s ≤ 100 * (pre.length : Int) → u ++ rbS T s pre.length post = rbS T 0 0 l → rbT T s pre.length post = rbT T 0 0 l →
      Ev (fun k => spec_riBefore.l1 k l acc (T : Int) (u ++ [s]) l (l.length : Int) (pre.length : Int)) r
  | [], pre, u, s, e, _, hu, hs, h1, h2 => by
    have hpl : pre.length = l.length := by rw [← e, List.append_nil]
    refine Ev.step (fun k => by rw [spec_riBefore.l1]) ?_
    rw [rbS, List.append_nil] at h1
    rw [rbT] at h2
    refine Ev.neg (by omega) (Ev.pos (by omega) (Ev.pos (by rw [List.length_append, List.length_singleton]; omega) ?_))
    have hr : rd (u ++ [s]) (l.length : Int) = s := by rw [← hpl, ← hu]; exact rd_mid u s []
    rw [hr]
    by_cases c : s = 0
    · refine Ev.pos c ?_
      rw [h1, c]
      exact hz (by omega)
    · exact Ev.neg c (hn (by omega))
  | x :: t, pre, u, s, e, ha, hu, hs, h1, h2 => by
    have hlen : pre.length + (t.length + 1) = l.length := by rw [← e, List.length_append, List.length_cons]
    have hx := allIn_iff.1 ha x List.mem_cons_self
    have ht : allIn t 0 100 = true := allIn_iff.2 fun y hy => allIn_iff.1 ha y (List.mem_cons_of_mem _ hy)
    refine Ev.step (fun k => by rw [spec_riBefore.l1]) ?_
    have hr : rd l (pre.length : Int) = x := by rw [← e]; exact rd_mid pre x t
    have hru : rd (u ++ [s]) (pre.length : Int) = s := by rw [← hu]; exact rd_mid u s []
    rw [hr, hru, rb_bit T pre.length (by omega) (by omega), wrap_succ (show pre.length < l.length by omega) (by omega)]
    have hul : (u ++ [s]).length = pre.length + 1 := by rw [List.length_append, List.length_singleton, hu]
    refine Ev.pos (by omega) (Ev.pos (by omega) (Ev.pos (by omega) ?_))
    rw [rbS] at h1
    rw [rbT] at h2
    have ih := rb_spec_l1 l hl acc T hT r hz hn t (pre ++ [x]) (u ++ [s]) (s + rbSg T pre.length x) (by rw [List.append_assoc]; exact e) ht (by rw [hul, List.length_append, List.length_singleton]) (by have := rbSg_abs (T := T) (i := pre.length) hx; rw [List.length_append, List.length_singleton]; omega) (by rw [List.length_append, List.length_singleton, List.append_assoc, List.singleton_append]; exact h1) (by rw [List.length_append, List.length_singleton]; exact h2)
    rw [List.length_append, List.length_singleton] at ih
    by_cases c : T / 2 ^ pre.length % 2 = 1
    · refine Ev.pos (by rw [c]; rfl) (Ev.pos (by omega) (Ev.pos (by omega) ?_))
      rw [rbSg, if_pos c] at ih
      rw [wrap_id (x := -x) (by omega) (by omega), wrap_id (x := s + -x) (by omega) (by omega)]
      exact ih
    · refine Ev.neg (by intro h; exact c (by exact_mod_cast h)) (Ev.pos (by omega) (Ev.pos (by omega) ?_))
      rw [rbSg, if_neg c] at ih
      rw [wrap_id (x := s + x) (by omega) (by omega)]
      exact ih
theorem rb_shl (n : Nat) (h2 : 2 ≤ n) (h10 : n ≤ 10) : shl .i64 1 (n : Int) = ((2 ^ n : Nat) : Int) := by
  have : n = 2 ∨ n = 3 ∨ n = 4 ∨ n = 5 ∨ n = 6 ∨ n = 7 ∨ n = 8 ∨ n = 9 ∨ n = 10 := by omega
  rcases this with rfl | rfl | rfl | rfl | rfl | rfl | rfl | rfl | rfl <;> decide
theorem rb_pow (n : Nat) (h10 : n ≤ 10) : 2 ^ n ≤ 1024 := Nat.pow_le_pow_right (n := 2) (by omega) h10
theorem rb_min0 (T : Nat) {l : List Int} (h : l ≠ []) : lminF 0 (rbS T 0 0 l ++ [0]) = lminF 0 (rbS T 0 0 l) ∧ lmin (rbS T 0 0 l) = lminF 0 (rbS T 0 0 l) := by
  constructor
  · rw [lminF_snoc]
    have := lminF_le (rbS T 0 0 l) 0
    omega
  · cases l with
    | nil => exact absurd rfl h
    | cons x t => rfl
theorem rb_near {l : List Int} (h2 : 2 ≤ l.length) (h10 : l.length ≤ 10) (ha : allIn l 0 100 = true) (T : Nat) : ∀ y ∈ rbS T 0 0 l, 0 ≤ y - lminF 0 (rbS T 0 0 l) ∧ y - lminF 0 (rbS T 0 0 l) ≤ 900 := by
  intro y hy
  have hne : l ≠ [] := by intro e; rw [e] at h2; simp at h2
  have hS : rbS T 0 0 l ≠ [] := by intro e; have := rbS_length T l 0 0; rw [e] at this; simp at this; omega
  have hm := lmin_mem hS
  have hle := lmin_le hy
  rw [(rb_min0 T hne).2] at hm hle
  have := (rbS_near T l 0 0 ha y hy _ hm).2.2.2
  omega
theorem riBefore_ev {l : List Int} (h2 : 2 ≤ l.length) (h10 : l.length ≤ 10) (ha : allIn l 0 100 = true) : Ev (fun k => spec_riBefore.f k l) (RB.fin (rbRows l (2 ^ l.length))) := by
  have hp := rb_pow l.length h10
  have hne : l ≠ [] := by intro e; rw [e] at h2; simp at h2
  have key := range (n := 2 ^ l.length) (fun (acc : List (List Int)) i k => spec_riBefore.l0 k l acc i) (fun _ _ => RB.fin (rbRows l (2 ^ l.length))) (fun i acc => acc = RB.fin (rbRows l i)) (by
    intro acc hacc
    refine Ev.step (fun k => by rw [spec_riBefore.l0]) ?_
    rw [rb_shl _ h2 h10, hacc]
    exact Ev.neg (by omega) (Ev.now _)) (by
    intro T acc hT hacc ih
    refine Ev.step (fun k => by rw [spec_riBefore.l0]) ?_
    rw [rb_shl _ h2 h10]
    refine Ev.pos (by omega) ?_
    have hsl := rbS_length T l 0 0
    refine rb_spec_l1 l h10 acc T (by omega) _ ?_ ?_ l [] [] 0 rfl ha rfl (by simp) rfl rfl
    · intro hz
      refine rb_spec_l2 l _ acc T _ (by rw [List.length_append, hsl, List.length_singleton]; omega) (by rw [List.length_append, hsl]; omega) ?_
      rw [List.take_left' hsl, (rb_min0 T hne).1]
      refine rb_spec_l3 l _ acc T _ _ (by omega) (fun x hx => by have := rb_near h2 h10 ha T x hx; omega) ?_
      refine rb_spec_l4 l (rbRow T l) acc T _ (by rw [rbRow_length]; omega) ?_ ?_ ?_
      · intro x hx
        rw [hacc, RB.mem_fin] at hx
        obtain ⟨T', rfl⟩ := rbRows_row l T x hx
        rw [rbRow_length, rbRow_length]
      · rw [hacc]
        have := rb_fin_length (rbRows l T)
        have := rbRows_length l T
        unfold RB.fin
        omega
      · rw [wrap_succ hT (by omega)]
        refine ih _ ?_
        rw [rbRows, if_pos hz, rb_fin_snoc, hacc]
    · intro hn
      rw [wrap_succ hT (by omega)]
      refine ih _ ?_
      rw [rbRows, if_neg hn, List.append_nil, hacc])
  exact key 0 [] (Nat.zero_le _) rfl
theorem riSmall_ev (l : List Int) (hl : l.length ≤ 1048576) : Ev (fun k => spec_riSmall.f k l) (isRing l && decide (lmax l ≤ 100)) := by
  refine Ev.bind (riGood_ev l hl) ?_
  cases h : isRing l with
  | false => exact Ev.neg (by decide) (Ev.now _)
  | true => exact Ev.pos rfl (Ev.bind (riMost_ev l (ring_ok h).1 (ring_ne h) (ring_ok h).2) (Ev.now _))
theorem within_eq (a b c : Int) : impl_within.f a b c = some (decide (b ≤ a ∧ a ≤ c)) := by
  unfold impl_within.f
  by_cases h : a ≥ b
  · rw [if_pos h]; simp [h]
  · rw [if_neg h]; simp [h]
theorem areIn_eq (l : List Int) (a b : Int) : impl_areIn.f l a b = some (l.all fun x => decide (a ≤ x ∧ x ≤ b)) := rfl
theorem isRing_eq (l : List Int) : impl_IsRing.f l = some (isRing l) := by
  unfold impl_IsRing.f isRing
  rw [within_eq, Option.bind_some]
  by_cases h : (2 : Int) ≤ (l.length : Int) ∧ (l.length : Int) ≤ 10
  · rw [if_pos (decide_eq_true h), decide_eq_true h, Bool.true_and]
    rfl
  · rw [if_neg (by simpa using h), decide_eq_false h, Bool.false_and]
theorem max_ev (l : List Int) (h : l ≠ []) (hl : l.length ≤ 1048576) : Ev (fun k => slices_Max_int_int.f k l) (lmax l) := by
  have hp : 1 ≤ l.length := List.length_pos_iff.2 h
  have key := range (n := l.length) (fun (s : Int) i k => slices_Max_int_int.l0 k l s i) (fun i s => lmaxF s (l.drop i)) (fun _ _ => True) (by
    intro s _
    refine Ev.step (fun k => by rw [slices_Max_int_int.l0]) ?_
    rw [List.drop_length]
    exact Ev.neg (by omega) (Ev.now _)) (by
    intro i s hi _ ih
    refine Ev.step (fun k => by rw [slices_Max_int_int.l0]) ?_
    refine Ev.pos (by omega) (Ev.pos (by omega) ?_)
    rw [wrap_succ hi (by omega), mx_eq, drop_rd hi]
    exact ih _ trivial)
  refine Ev.neg (by omega) (Ev.pos (by omega) ?_)
  exact key 1 _ hp trivial
theorem min_ev (l : List Int) (h : l ≠ []) (hl : l.length ≤ 1048576) : Ev (fun k => slices_Min_int_int.f k l) (lmin l) := by
  have hp : 1 ≤ l.length := List.length_pos_iff.2 h
  have key := range (n := l.length) (fun (s : Int) i k => slices_Min_int_int.l0 k l s i) (fun i s => lminF s (l.drop i)) (fun _ _ => True) (by
    intro s _
    refine Ev.step (fun k => by rw [slices_Min_int_int.l0]) ?_
    rw [List.drop_length]
    exact Ev.neg (by omega) (Ev.now _)) (by
    intro i s hi _ ih
    refine Ev.step (fun k => by rw [slices_Min_int_int.l0]) ?_
    refine Ev.pos (by omega) (Ev.pos (by omega) ?_)
    rw [wrap_succ hi (by omega), mn_eq, drop_rd hi]
    exact ih _ trivial)
  refine Ev.neg (by omega) (Ev.pos (by omega) ?_)
  exact key 1 _ hp trivial
theorem rb_set (x v : Int) (B : List Int) : ∀ A : List Int, (A ++ x :: B).set A.length v = A ++ v :: B
  | [] => rfl
  | a :: A => by rw [List.cons_append, List.length_cons, List.set_cons_succ, rb_set x v B A]; rfl
theorem rb_impl_l2 (l S : List Int) (acc : List (List Int)) (M : Int) (x23 x24 : Int) (r : List (List Int) × Bool) (hS : S.length ≤ 1048576) (hacc : acc.length ≤ 1048576) (hb : ∀ x ∈ S, -1000000 ≤ x - M ∧ x - M ≤ 1000000) (hend : Ev (fun k => impl_RingsBefore.l0 k l (acc ++ [S.map fun x => x - M]) x23 (wrap64 (x24 + 1))) r) :
    Ev (fun k => impl_RingsBefore.l2 k l acc S M x23 x24 (S.length : Int) 0) r := by
  have key : ∀ (post pre : List Int), pre ++ post = S → Ev (fun k => impl_RingsBefore.l2 k l acc ((pre.map fun x => x - M) ++ post) M x23 x24 (S.length : Int) (pre.length : Int)) r := by
    intro post
    induction post with
    | nil =>
      intro pre e
      rw [List.append_nil] at e
      subst e
      refine Ev.step (fun k => by rw [impl_RingsBefore.l2]) ?_
      rw [List.append_nil]
      exact Ev.neg (by omega) (Ev.pos (by omega) hend)
    | cons x t ih =>
      intro pre e
      have hlen : pre.length + (t.length + 1) = S.length := by rw [← e, List.length_append, List.length_cons]
      have hx := hb x (by rw [← e]; simp)
      refine Ev.step (fun k => by rw [impl_RingsBefore.l2]) ?_
      have hml : (pre.map fun x => x - M).length = pre.length := List.length_map _
      refine Ev.pos (by omega) (Ev.pos (by omega) (Ev.pos (by rw [List.length_append, hml, List.length_cons]; omega) ?_))
      have hr : rd ((pre.map fun x => x - M) ++ x :: t) (pre.length : Int) = x := by rw [← hml]; exact rd_mid _ x t
      have hset : ((pre.map fun x => x - M) ++ x :: t).set (pre.length : Int).toNat (x - M) = ((pre ++ [x]).map fun x => x - M) ++ t := by
        rw [Int.toNat_natCast, ← hml, rb_set, List.map_append, List.append_assoc]
        rfl
      rw [hr, wrap_id (x := x - M) (by omega) (by omega), hset, wrap_succ (show pre.length < S.length by omega) (by omega)]
      have := ih (pre ++ [x]) (by rw [List.append_assoc]; exact e)
      rw [List.length_append, List.length_singleton] at this
      exact this
  exact key S [] rfl
theorem rb_impl_l1 (l : List Int) (hl : l.length ≤ 10) (acc : List (List Int)) (T : Nat) (hT : T ≤ 1024) (x23 : Int) (r : List (List Int) × Bool)
    (hz : rbT T 0 0 l = 0 → Ev (fun k => (slices_Min_int_int.f k (rbS T 0 0 l)).bind fun t119 => (impl_RingsBefore.l2 k l acc (rbS T 0 0 l) t119 x23 (T : Int) ((rbS T 0 0 l).length : Int) 0)) r)
    (hn : rbT T 0 0 l ≠ 0 → Ev (fun k => impl_RingsBefore.l0 k l acc x23 (wrap64 ((T : Int) + 1))) r) :
    ∀ (post pre u : List Int) (s : Int), pre ++ post = l → allIn post 0 100 = true → u.length = pre.length → -(100 * (pre.length : Int)) ≤ s ∧ s ≤ 100 * (pre.length : Int) → u ++ rbS T s pre.length post = rbS T 0 0 l → rbT T s pre.length post = rbT T 0 0 l →
      Ev (fun k => impl_RingsBefore.l1 k l acc (T : Int) u s x23 (T : Int) l (l.length : Int) (pre.length : Int)) r
  | [], pre, u, s, e, _, hu, hs, h1, h2 => by
    have hpl : pre.length = l.length := by rw [← e, List.append_nil]
    refine Ev.step (fun k => by rw [impl_RingsBefore.l1]) ?_
    rw [rbS, List.append_nil] at h1
    rw [rbT] at h2
    refine Ev.neg (by omega) ?_
    rw [h1]
    by_cases c : s = 0
    · exact Ev.pos c (hz (by omega))
    · exact Ev.neg c (hn (by omega))
  | x :: t, pre, u, s, e, ha, hu, hs, h1, h2 => by
    have hlen : pre.length + (t.length + 1) = l.length := by rw [← e, List.length_append, List.length_cons]
    have hx := allIn_iff.1 ha x List.mem_cons_self
    have ht : allIn t 0 100 = true := allIn_iff.2 fun y hy => allIn_iff.1 ha y (List.mem_cons_of_mem _ hy)
    refine Ev.step (fun k => by rw [impl_RingsBefore.l1]) ?_
    have hr : rd l (pre.length : Int) = x := by rw [← e]; exact rd_mid pre x t
    rw [hr, rb_bit T pre.length (by omega) (by omega), wrap_succ (show pre.length < l.length by omega) (by omega)]
    refine Ev.pos (by omega) (Ev.pos (by omega) (Ev.pos (by omega) (Ev.pos (by omega) (Ev.some_ ?_))))
    rw [rbS] at h1
    rw [rbT] at h2
    have ih := rb_impl_l1 l hl acc T hT x23 r hz hn t (pre ++ [x]) (u ++ [s]) (s + rbSg T pre.length x) (by rw [List.append_assoc]; exact e) ht (by rw [List.length_append, List.length_append, List.length_singleton, List.length_singleton, hu]) (by have := rbSg_abs (T := T) (i := pre.length) hx; rw [List.length_append, List.length_singleton]; omega) (by rw [List.length_append, List.length_singleton, List.append_assoc, List.singleton_append]; exact h1) (by rw [List.length_append, List.length_singleton]; exact h2)
    rw [List.length_append, List.length_singleton] at ih
    by_cases c : T / 2 ^ pre.length % 2 = 1
    · refine Ev.pos (by rw [c]; rfl) ?_
      rw [rbSg, if_pos c] at ih
      rw [wrap_id (x := -x) (by omega) (by omega), wrap_id (x := s + -x) (by omega) (by omega)]
      exact ih
    · refine Ev.neg (by intro h; exact c (by exact_mod_cast h)) ?_
      rw [rbSg, if_neg c] at ih
      rw [wrap_id (x := s + x) (by omega) (by omega)]
      exact ih
theorem rb_fit {l : List Int} (h2 : 2 ≤ l.length) (h10 : l.length ≤ 10) (ha : allIn l 0 100 = true) : RB.fit (rbRows l (2 ^ l.length)) = true := by
  have hp := rb_pow l.length h10
  have hl := rbRows_length l (2 ^ l.length)
  unfold RB.fit
  rw [Bool.and_eq_true, decide_eq_true_eq, List.all_eq_true]
  refine ⟨by omega, fun u hu => ?_⟩
  obtain ⟨T, rfl⟩ := rbRows_row l _ u hu
  rw [Bool.and_eq_true, decide_eq_true_eq, List.all_eq_true]
  refine ⟨fun e => ?_, fun y hy => decide_eq_true ?_⟩
  · have := rbRow_length T l
    rw [e] at this
    simp at this
    omega
  · unfold rbRow at hy
    obtain ⟨z, hz, rfl⟩ := List.mem_map.1 hy
    have := rb_near h2 h10 ha T z hz
    omega
theorem iRingsBefore_l0 {l : List Int} (h2 : 2 ≤ l.length) (h10 : l.length ≤ 10) (ha : allIn l 0 100 = true) : Ev (fun k => impl_RingsBefore.l0 k l [] ((2 ^ l.length : Nat) : Int) 0) (RB.fin (rbRows l (2 ^ l.length)), true) := by
  have hp := rb_pow l.length h10
  have hne : l ≠ [] := by intro e; rw [e] at h2; simp at h2
  have key := range (n := 2 ^ l.length) (fun (acc : List (List Int)) i k => impl_RingsBefore.l0 k l acc ((2 ^ l.length : Nat) : Int) i) (fun _ _ => (RB.fin (rbRows l (2 ^ l.length)), true)) (fun i acc => acc = rbRows l i) (by
    intro acc hacc
    refine Ev.step (fun k => by rw [impl_RingsBefore.l0]) ?_
    rw [hacc]
    exact Ev.neg (by omega) (Ev.pos (rb_fit h2 h10 ha) (Ev.now _))) (by
    intro T acc hT hacc ih
    refine Ev.step (fun k => by rw [impl_RingsBefore.l0]) ?_
    refine Ev.pos (by omega) ?_
    have hsl := rbS_length T l 0 0
    have hal := rbRows_length l T
    refine rb_impl_l1 l h10 acc T (by omega) _ _ ?_ ?_ l [] [] 0 rfl ha rfl (by simp) rfl rfl
    · intro hz
      refine Ev.bind (min_ev _ (fun e => by rw [e] at hsl; simp at hsl; omega) (by omega)) ?_
      rw [(rb_min0 T hne).2]
      refine rb_impl_l2 l _ acc _ _ _ _ (by omega) (by rw [hacc]; omega) (fun x hx => by have := rb_near h2 h10 ha T x hx; omega) ?_
      rw [wrap_succ hT (by omega)]
      refine ih _ ?_
      rw [rbRows, if_pos hz, hacc]
      rfl
    · intro hn
      rw [wrap_succ hT (by omega)]
      refine ih _ ?_
      rw [rbRows, if_neg hn, List.append_nil, hacc])
  exact key 0 [] (Nat.zero_le _) rfl
theorem rb_small {l : List Int} (h : isRing l = true) (hm : lmax l ≤ 100) : allIn l 0 100 = true := allIn_iff.2 fun x hx => by
  have := allIn_iff.1 (isRing_len h).2.2 x hx
  have := le_lmax hx
  omega
theorem iRingsBefore_ev (l : List Int) : Ev (fun k => impl_RingsBefore.f k l) (if isRing l && decide (lmax l ≤ 100) then (RB.fin (rbRows l (2 ^ l.length)), true) else ([], false)) := by
  refine Ev.bind (Ev.const (isRing_eq l)) ?_
  cases h : isRing l with
  | false =>
    refine Ev.neg (by decide) (Ev.step (fun k => by rw [impl_RingsBefore.j0]) ?_)
    exact Ev.pos rfl (Ev.now _)
  | true =>
    refine Ev.pos rfl (Ev.bind (max_ev l (ring_ne h) (ring_ok h).1) (Ev.step (fun k => by rw [impl_RingsBefore.j0]) ?_))
    by_cases c : lmax l > 100
    · rw [decide_eq_true c, decide_eq_false (show ¬ lmax l ≤ 100 by omega)]
      exact Ev.pos rfl (Ev.now _)
    · rw [decide_eq_false c, decide_eq_true (show lmax l ≤ 100 by omega)]
      refine Ev.neg (by decide) ?_
      rw [rb_shl _ (isRing_len h).1 (isRing_len h).2.1]
      exact iRingsBefore_l0 (isRing_len h).1 (isRing_len h).2.1 (rb_small h (by omega))
theorem both_HasRingBefore (l : List Int) (hl : l.length ≤ 1048576) : ∃ w : Bool × Bool, Ev (fun k => spec_HasRingBefore.f k l) w ∧ Ev (fun k => impl_HasRingBefore.f k l) w ∧ True := by
  cases h : isRing l && decide (lmax l ≤ 100) with
  | false =>
    have hI := iRingsBefore_ev l
    have hS := riSmall_ev l hl
    rw [h] at hI hS
    exact ⟨(false, false), Ev.bind hS (Ev.neg (by decide) (Ev.now _)), Ev.bind hI (Ev.now _), trivial⟩
  | true =>
    have hI := iRingsBefore_ev l
    have hS := riSmall_ev l hl
    rw [h] at hI hS
    rw [Bool.and_eq_true] at h
    have h' := isRing_len h.1
    refine ⟨_, Ev.bind hS (Ev.pos rfl (Ev.bind (riBefore_ev h'.1 h'.2.1 (rb_small h.1 (of_decide_eq_true h.2))) (Ev.now _))), Ev.bind hI ?_, trivial⟩
    have e : decide (((RB.fin (rbRows l (2 ^ l.length))).length : Int) > 0) = decide (0 < (RB.fin (rbRows l (2 ^ l.length))).length) := by
      by_cases c : 0 < (RB.fin (rbRows l (2 ^ l.length))).length
      · rw [decide_eq_true c, decide_eq_true (by omega)]
      · rw [decide_eq_false c, decide_eq_false (by omega)]
    rw [← e]
    exact Ev.now _
theorem FnExactHasRingBefore : laws_FnExactHasRingBefore.Pure := by
  intro l0 h0_ h1_ h2_
  refine Ev.rounds ?_
  refine Ev.congr (fun k => by rw [laws_FnExactHasRingBefore.f]) ?_
  by_cases hll0 : (l0.length : Int) > 1048576
  · exact Ev.pos hll0 (Ev.now _)
  refine Ev.neg hll0 ?_
  have hnl0 : l0.length ≤ 1048576 := by omega
  obtain ⟨w, hS, hI, hW⟩ := both_HasRingBefore l0 hnl0
  repeat first
    | (exact Ev.now _)
    | (refine Ev.bind (toIntS_ev l0 hnl0) ?_)
    | (refine Ev.bind hS ?_)
    | (refine Ev.bind hI ?_)
    | (refine Ev.bind (eqIntS_ev _ _ ?_ rfl) ?_; next => (first | assumption | exact hW | exact hW.1 | exact hW.2))
    | (refine Ev.pos ?_ ?_; next => (first | rfl | decide | omega | (dsimp only; omega) | (simp; done)))
    | (refine Ev.neg ?_ ?_; next => (first | decide | omega | (dsimp only; omega) | (simp; done)))
    | (refine Ev.step (fun k => by rw [laws_FnExactHasRingBefore.j0]) ?_)

end Go.Proofs.Ytdiobgmdmeomjaa.Pure
