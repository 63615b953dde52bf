/- What is proved here: the pure statement of the law FnExactParseCups: for every input the law, as the print tells it, answers true. No condition. (The row that follows from it says it of the Go program.) -/
import Derived.Test.YteneeeepocefaaaDoorPFnExactParseCupsx4
import Derived.Test.YteneeeepocefaaaDoorBase
set_option linter.unusedSimpArgs false
set_option linter.unusedVariables false
namespace Go.Proofs.YteneeeepocefaaaDoor.Pure
open Go.RowKit Go.Proofs.YteneeeepocefaaaDoor.PFnExactParseCups Go.Proofs.YteneeeepocefaaaDoorW.PrintWords Go.Proofs.YteneeeepocefaaaDoorW.PrintLast Go.Proofs.YteneeeepocefaaaDoor.Base

theorem l1In_eq (a b c : Int) : spec_l1In.f a b c = some (decide (b ≤ a ∧ a ≤ c)) := by
  unfold spec_l1In.f
  by_cases h : a ≥ b
  · rw [if_pos h]; simp [h]
  · rw [if_neg h]; simp [h]
theorem l1All_ev (l : List Int) (a b : Int) (hl : l.length ≤ 1048576) : Ev (fun k => spec_l1All.f k l a b) (l.all fun x => decide (a ≤ x ∧ x ≤ b)) := by
  have key := range (n := l.length) (fun (_ : Unit) i k => spec_l1All.l0 k a b l (l.length : Int) i) (fun i _ => (l.drop i).all fun x => decide (a ≤ x ∧ x ≤ b)) (fun _ _ => True) (by
    intro s _
    refine Ev.step (fun k => by rw [spec_l1All.l0]) ?_
    rw [List.drop_length]
    exact Ev.neg (by omega) (Ev.now _)) (by
    intro i s hi _ ih
    refine Ev.step (fun k => by rw [spec_l1All.l0]) ?_
    refine Ev.pos (by omega) (Ev.pos (by omega) (Ev.pos (by omega) ?_))
    rw [l1In_eq, drop_rd hi, List.all_cons]
    refine Ev.some_ ?_
    cases h : decide (a ≤ rd l (i : Int) ∧ rd l (i : Int) ≤ b) with
    | true =>
      refine Ev.pos rfl ?_
      rw [wrap_succ hi (by omega), Bool.true_and]
      exact ih () trivial
    | false => exact Ev.neg (by decide) (Ev.now _))
  exact key 0 () (by omega) trivial
def pow2 (u : Int) : Bool := Go.bits .and .i64 u (wrap64 (u - 1)) == 0
def unitC (u : Int) : Bool := decide (1 ≤ u ∧ u ≤ 1048576) && pow2 u
theorem cuUnit_eq (u : Int) : spec_cuUnit.f u = some (unitC u) := by
  unfold spec_cuUnit.f unitC
  rw [l1In_eq, Option.bind_some]
  by_cases h : 1 ≤ u ∧ u ≤ 1048576
  · rw [if_pos (decide_eq_true h), decide_eq_true h, Bool.true_and]; rfl
  · rw [if_neg (by simpa using h), decide_eq_false h, Bool.false_and]
def oddB (n : Int) : Bool := Int.tmod n 2 == 1
/-- There are cups. -/
def goodC (l : List Int) (u : Int) : Bool := decide ((2 : Int) ≤ (l.length : Int) ∧ (l.length : Int) ≤ 6) && (unitC u && (allIn l 0 (1000 * u) && (decide (u = 1) || l.any oddB)))
theorem cuGood_l0 (l : List Int) (u : Int) (hl : l.length ≤ 1048576) : ∀ (i : Nat) (b : Bool), i ≤ l.length → Ev (fun k => spec_cuGood.l0 k b l (l.length : Int) (i : Int) l u) (decide (u = 1) || (b || (l.drop i).any oddB)) := by
  intro i b hi
  have key := range (n := l.length) (fun (b : Bool) i k => spec_cuGood.l0 k b l (l.length : Int) i l u) (fun i b => (decide (u = 1) || (b || (l.drop i).any oddB))) (fun _ _ => True) (by
    intro b _
    refine Ev.step (fun k => by rw [spec_cuGood.l0]) ?_
    rw [List.drop_length, List.any_nil, Bool.or_false]
    refine Ev.neg (by omega) ?_
    by_cases h : u = 1
    · rw [decide_eq_true h, Bool.true_or]; exact Ev.pos h (Ev.now _)
    · rw [decide_eq_false h, Bool.false_or]; exact Ev.neg h (Ev.now _)) (by
    intro i b hi _ ih
    refine Ev.step (fun k => by rw [spec_cuGood.l0]) ?_
    rw [drop_rd hi, List.any_cons, wrap_succ hi (by omega)]
    refine Ev.pos (by omega) (Ev.pos (by omega) (Ev.pos (by omega) ?_))
    cases b with
    | true => exact Ev.pos rfl (by have := ih true trivial; simpa using this)
    | false =>
      refine Ev.neg (by decide) ?_
      have := ih (oddB (rd l (i : Int))) trivial
      simpa [oddB] using this)
  exact key i b hi trivial
theorem cuGood_ev (l : List Int) (u : Int) (hl : l.length ≤ 1048576) : Ev (fun k => spec_cuGood.f k l u) (goodC l u) := by
  have hno : ∀ b, b = true → Ev (fun k => spec_cuGood.j0 k b l u) false := fun b hb => by
    refine Ev.step (fun k => by rw [spec_cuGood.j0]) ?_
    exact Ev.pos hb (Ev.now _)
  refine Ev.congr (fun k => by rw [spec_cuGood.f, l1In_eq, cuUnit_eq]) ?_
  refine Ev.some_ ?_
  unfold goodC
  by_cases h1 : (2 : Int) ≤ (l.length : Int) ∧ (l.length : Int) ≤ 6
  · rw [decide_eq_true h1, Bool.true_and]
    refine Ev.pos rfl (Ev.some_ ?_)
    cases h2 : unitC u with
    | false => rw [Bool.false_and]; exact Ev.neg (by decide) (hno true rfl)
    | true =>
      rw [Bool.true_and]
      have hu : 1 ≤ u ∧ u ≤ 1048576 := by
        unfold unitC at h2
        rw [Bool.and_eq_true] at h2
        exact of_decide_eq_true h2.1
      rw [wrap_id (by omega) (by omega)]
      refine Ev.pos rfl (Ev.bind (l1All_ev l 0 (1000 * u) hl) ?_)
      show Ev _ (allIn l 0 (1000 * u) && _)
      change Ev (fun k => spec_cuGood.j0 k (!(allIn l 0 (1000 * u))) l u) _
      cases h3 : allIn l 0 (1000 * u) with
      | false => rw [Bool.false_and]; exact hno _ rfl
      | true =>
        rw [Bool.true_and]
        refine Ev.step (fun k => by rw [spec_cuGood.j0]) ?_
        refine Ev.neg (by decide) ?_
        have := cuGood_l0 l u hl 0 false (by omega)
        simpa using this
  · rw [decide_eq_false h1, Bool.false_and]
    exact Ev.neg (by decide) (hno true rfl)
theorem goodC_len {l : List Int} {u : Int} (h : goodC l u = true) : 2 ≤ l.length ∧ l.length ≤ 6 ∧ unitC u = true ∧ 1 ≤ u ∧ u ≤ 1048576 ∧ allIn l 0 (1000 * u) = true ∧ (u = 1 ∨ l.any oddB = true) := by
  unfold goodC at h
  simp only [Bool.and_eq_true, Bool.or_eq_true, decide_eq_true_eq] at h
  obtain ⟨h1, h2, h3, h4⟩ := h
  have h5 := h2
  unfold unitC at h5
  simp only [Bool.and_eq_true, decide_eq_true_eq] at h5
  exact ⟨by omega, by omega, h2, h5.1.1, h5.1.2, h3, h4⟩
def mkB (l : List UInt8) : ByteArray := ⟨l.toArray⟩
theorem mkB_list (l : List UInt8) : (mkB l).data.toList = l := by simp [mkB]
theorem mkB_of (s : ByteArray) : mkB s.data.toList = s := by
  cases s
  simp [mkB]
/-- A text cut at each c. -/
def spl (c : UInt8) : List UInt8 → List (List UInt8)
  | [] => [[]]
  | b :: t => if b = c then [] :: spl c t else match spl c t with
    | [] => [[b]]
    | h :: r => (b :: h) :: r
def glue (p : List UInt8) : List (List UInt8) → List (List UInt8)
  | [] => []
  | h :: r => (p ++ h) :: r
theorem spl_ne (c : UInt8) : ∀ l, spl c l ≠ []
  | [] => by simp [spl]
  | b :: t => by
    rw [spl]
    split
    · simp
    · split <;> simp
theorem spl_cons_ne {c b : UInt8} (h : b ≠ c) (t : List UInt8) : spl c (b :: t) = glue [b] (spl c t) := by
  rw [spl, if_neg h]
  cases e : spl c t with
  | nil => exact absurd e (spl_ne c t)
  | cons x r => rfl
theorem spl_cons_eq (c : UInt8) (t : List UInt8) : spl c (c :: t) = [] :: spl c t := by rw [spl, if_pos rfl]
theorem glue_glue (p q : List UInt8) (L : List (List UInt8)) : glue p (glue q L) = glue (p ++ q) L := by
  cases L with
  | nil => rfl
  | cons h r => simp [glue]
theorem glue_nil (L : List (List UInt8)) : glue [] L = L := by
  cases L with
  | nil => rfl
  | cons h r => rfl
theorem spl_none {c : UInt8} : ∀ {l : List UInt8}, c ∉ l → spl c l = [l]
  | [], _ => rfl
  | b :: t, h => by
    have hb : b ≠ c := fun e => h (by rw [e]; exact List.mem_cons_self)
    rw [spl_cons_ne hb, spl_none (fun hm => h (List.mem_cons_of_mem _ hm))]
    rfl
theorem spl_at {c : UInt8} (b : List UInt8) : ∀ {a : List UInt8}, c ∉ a → spl c (a ++ c :: b) = a :: spl c b
  | [], _ => spl_cons_eq c b
  | x :: a, h => by
    have hx : x ≠ c := fun e => h (by rw [e]; exact List.mem_cons_self)
    rw [List.cons_append, spl_cons_ne hx, spl_at b (fun hm => h (List.mem_cons_of_mem _ hm))]
    rfl
theorem spl_len (c : UInt8) : ∀ l, (spl c l).length ≤ l.length + 1
  | [] => by simp [spl]
  | b :: t => by
    have ih := spl_len c t
    by_cases h : b = c
    · rw [h, spl_cons_eq, List.length_cons, List.length_cons]; omega
    · rw [spl_cons_ne h]
      cases e : spl c t with
      | nil => exact absurd e (spl_ne c t)
      | cons x r => rw [e] at ih; simp only [glue, List.length_cons] at ih ⊢; omega
theorem spl_short_ (c : UInt8) (m : Nat) : ∀ (l q : List UInt8), (∀ p ∈ glue q (spl c l), p.length ≤ m) → l.length + q.length + 1 ≤ (glue q (spl c l)).length * (m + 1)
  | [], q, h => by
    have := h (q ++ []) (by simp [spl, glue])
    rw [List.append_nil] at this
    simp only [spl, glue, List.length_cons, List.length_nil]
    omega
  | b :: t, q, h => by
    by_cases hb : b = c
    · rw [hb, spl_cons_eq] at h ⊢
      have h1 := h (q ++ []) (by simp [glue])
      have ih := spl_short_ c m t [] (fun p hp => h p (by rw [glue_nil] at hp; simp [glue, hp]))
      rw [glue_nil] at ih
      rw [List.append_nil] at h1
      simp only [glue, List.length_cons, List.length_nil] at ih ⊢
      rw [Nat.add_mul]
      omega
    · rw [spl_cons_ne hb, glue_glue] at h ⊢
      have ih := spl_short_ c m t (q ++ [b]) h
      rw [List.length_append, List.length_singleton] at ih
      rw [List.length_cons]
      omega
/-- Few short pieces make a short text. -/
theorem spl_short (c : UInt8) (m : Nat) (l : List UInt8) (h : ∀ p ∈ spl c l, p.length ≤ m) : l.length + 1 ≤ (spl c l).length * (m + 1) := by
  have := spl_short_ c m l [] (by rw [glue_nil]; exact h)
  rw [glue_nil] at this
  simpa using this
theorem rdB {l : List ByteArray} {i : Nat} (h : i < l.length) : rdOf ByteArray.empty l (i : Int) = l[i] := by
  unfold rdOf
  rw [Int.toNat_natCast, List.getD_eq_getElem?_getD, List.getElem?_eq_getElem h]
  rfl
theorem drop_at (c : UInt8) (b : List UInt8) : ∀ a : List UInt8, (a ++ c :: b).drop (a.length + 1) = b
  | [] => rfl
  | x :: a => by rw [List.cons_append, List.length_cons, List.drop_succ_cons, drop_at c b a]
theorem list_size (s : ByteArray) : s.data.toList.length = s.size := Array.length_toList
theorem bt_list (s : ByteArray) (i : Nat) (h : i < s.data.toList.length) : bt s (i : Int) = ((s.data.toList[i]'h).toNat : Int) := by
  have hs := list_size s
  unfold bt
  rw [dif_pos (by rw [Int.toNat_natCast]; omega)]
  simp [ByteArray.getElem_eq_getElem_data]
theorem ext_list (s : ByteArray) (a b : Nat) : s.extract a b = mkB ((s.data.toList.take b).drop a) := by
  rw [← mkB_of (s.extract a b)]
  congr 1
  simp [List.drop_take, List.extract_eq_take_drop]
theorem l1Split_ev (s : ByteArray) (c : UInt8) (hs : s.size ≤ 1048576) : Ev (fun k => spec_l1Split.f k s (c.toNat : Int)) ((spl c s.data.toList).map mkB) := by
  have hL := list_size s
  have key := range (n := s.size) (fun (x : List ByteArray × Nat) i k => spec_l1Split.l0 k s (c.toNat : Int) x.1 (x.2 : Int) i) (fun i x => x.1 ++ (glue ((s.data.toList.take i).drop x.2) (spl c (s.data.toList.drop i))).map mkB) (fun i x => x.2 ≤ i ∧ x.1.length ≤ i) (by
    rintro ⟨out, fr⟩ ⟨h1, h2⟩
    dsimp only at h1 h2 ⊢
    refine Ev.step (fun k => by rw [spec_l1Split.l0]) ?_
    refine Ev.neg (by omega) (Ev.pos (by omega) (Ev.pos (by omega) (Ev.pos (by omega) ?_)))
    rw [List.drop_of_length_le (show s.data.toList.length ≤ s.size by omega), Int.toNat_natCast, ext_list]
    simp only [spl, glue, List.map_cons, List.map_nil, List.append_nil]
    exact Ev.now _) (by
    rintro i ⟨out, fr⟩ hi ⟨h1, h2⟩ ih
    dsimp only at h1 h2 ih ⊢
    refine Ev.step (fun k => by rw [spec_l1Split.l0]) ?_
    have hi' : i < s.data.toList.length := by omega
    have hd : s.data.toList.drop i = s.data.toList[i] :: s.data.toList.drop (i + 1) := List.drop_eq_getElem_cons hi'
    refine Ev.pos (by omega) (Ev.pos (by omega) ?_)
    rw [bt_list s i hi', wrap_succ hi (by omega)]
    by_cases e : s.data.toList[i] = c
    · refine Ev.pos (by rw [e]) (Ev.pos (by omega) (Ev.pos (by omega) (Ev.pos (by omega) (Ev.pos (by omega) ?_))))
      have h3 := ih (out ++ [s.extract fr i], i + 1) ⟨Nat.le_refl _, by rw [List.length_append, List.length_singleton]; omega⟩
      rw [hd, e, spl_cons_eq]
      rw [List.drop_of_length_le (show (s.data.toList.take (i + 1)).length ≤ i + 1 by rw [List.length_take]; omega), glue_nil, ext_list] at h3
      simp only [glue, List.map_cons, List.append_nil]
      rw [List.append_assoc, List.singleton_append] at h3
      rw [Int.toNat_natCast, Int.toNat_natCast, ext_list]
      exact h3
    · refine Ev.neg (fun h => e (UInt8.toNat_inj.1 (by exact_mod_cast h))) ?_
      have h3 := ih (out, fr) ⟨by show fr ≤ i + 1; omega, by show out.length ≤ i + 1; omega⟩
      rw [hd, spl_cons_ne e, glue_glue]
      rw [List.take_succ_eq_append_getElem hi', List.drop_append_of_le_length (by rw [List.length_take]; omega)] at h3
      exact h3)
  have := key 0 ([], 0) (Nat.zero_le _) ⟨Nat.le_refl _, Nat.le_refl _⟩
  have h2 : Ev (fun k => spec_l1Split.l0 k s (c.toNat : Int) [] 0 0) ((spl c s.data.toList).map mkB) := by simpa [glue_nil] using this
  exact h2
theorem pc_step {u : Nat} (h : ¬ u < 10) : Lib.decDigits u = Lib.decDigits (u / 10) ++ [UInt8.ofNat (48 + u % 10)] := by
  rw [Lib.decDigits, dif_neg h]
theorem pc_one {u : Nat} (h : u < 10) : Lib.decDigits u = [UInt8.ofNat (48 + u)] := by
  rw [Lib.decDigits, dif_pos h]
theorem pc_digit {d : Nat} (h : d < 10) : (UInt8.ofNat (48 + d)).toNat = 48 + d := by
  rw [UInt8.toNat_ofNat']
  omega
theorem pc_itoa (u : Nat) : Lib.itoa (u : Int) = Lib.decDigits u := by unfold Lib.itoa; rw [if_neg (by omega)]; simp
def isDig (b : UInt8) : Prop := 48 ≤ b.toNat ∧ b.toNat ≤ 57
instance (b : UInt8) : Decidable (isDig b) := inferInstanceAs (Decidable (_ ∧ _))
def valD (a : Nat) (l : List UInt8) : Nat := l.foldl (fun a b => 10 * a + (b.toNat - 48)) a
theorem pc_val (u : Nat) : valD 0 (Lib.decDigits u) = u := by
  induction u using Nat.strongRecOn with
  | _ u ih =>
    by_cases h : u < 10
    · rw [pc_one h]
      simp only [valD, List.foldl_cons, List.foldl_nil, pc_digit h]
      omega
    · have e := ih (u / 10) (by omega)
      rw [pc_step h]
      unfold valD at e ⊢
      rw [List.foldl_append, e, List.foldl_cons, List.foldl_nil, pc_digit (Nat.mod_lt u (by decide))]
      omega
theorem pc_all (u : Nat) : ∀ b ∈ Lib.decDigits u, isDig b := by
  induction u using Nat.strongRecOn with
  | _ u ih =>
    have one : ∀ d, d < 10 → isDig (UInt8.ofNat (48 + d)) := fun d hd => by unfold isDig; rw [pc_digit hd]; omega
    by_cases h : u < 10
    · rw [pc_one h]
      intro b hb
      rw [List.mem_singleton.1 hb]
      exact one u h
    · rw [pc_step h]
      intro b hb
      rcases List.mem_append.1 hb with hb | hb
      · exact ih (u / 10) (by omega) b hb
      · rw [List.mem_singleton.1 hb]; exact one _ (Nat.mod_lt u (by decide))
theorem pc_ne (u : Nat) : Lib.decDigits u ≠ [] := by
  by_cases h : u < 10
  · rw [pc_one h]; simp
  · rw [pc_step h]; simp
/-- No 0 ahead of other digits. -/
theorem pc_head (u : Nat) : u ≠ 0 → ∃ b t, Lib.decDigits u = b :: t ∧ b.toNat ≠ 48 := by
  induction u using Nat.strongRecOn with
  | _ u ih =>
    intro h0
    by_cases h : u < 10
    · exact ⟨_, [], pc_one h, by rw [pc_digit h]; omega⟩
    · obtain ⟨b, t, e, hb⟩ := ih (u / 10) (by omega) (by omega)
      exact ⟨b, t ++ [UInt8.ofNat (48 + u % 10)], by rw [pc_step h, e]; rfl, hb⟩
theorem pc_zero : Lib.decDigits 0 = [48] := by rw [pc_one (by decide)]; rfl
def noZero (l : List UInt8) : Prop := ∀ b t, l = b :: t → b.toNat = 48 → t = []
theorem pc_noZero (u : Nat) : noZero (Lib.decDigits u) := by
  intro b t e hb
  by_cases h : u = 0
  · rw [h, pc_zero] at e
    injection e with _ e
    exact e.symm
  · obtain ⟨b', t', e', hb'⟩ := pc_head u h
    rw [e'] at e
    injection e with e1 e2
    rw [e1] at hb'
    exact absurd hb hb'
/-- A row of digits with no 0 ahead is its number's own row. -/
theorem pc_conv : ∀ (n : Nat) (l : List UInt8), l.length = n + 1 → (∀ b ∈ l, isDig b) → noZero l → l = Lib.decDigits (valD 0 l)
  | 0, l, hl, hd, _ => by
    obtain ⟨d, rfl⟩ := List.length_eq_one_iff.1 hl
    have h := hd d List.mem_cons_self
    have e : valD 0 [d] = d.toNat - 48 := by simp [valD]
    unfold isDig at h
    rw [e, pc_one (by omega), show 48 + (d.toNat - 48) = d.toNat from by omega]
    simp
  | n + 1, l, hl, hd, hz => by
    obtain ⟨m, d, rfl⟩ : ∃ m d, l = m ++ [d] := ⟨l.dropLast, l.getLast (by intro e; rw [e] at hl; simp at hl), (List.dropLast_concat_getLast _).symm⟩
    have hm : m.length = n + 1 := by rw [List.length_append, List.length_singleton] at hl; omega
    have hzm : noZero m := fun b t e hb => by
      have := hz b (t ++ [d]) (by rw [e]; rfl) hb
      simp at this
    have ih := pc_conv n m hm (fun b hb => hd b (List.mem_append_left _ hb)) hzm
    have h := hd d (by simp)
    unfold isDig at h
    have e : valD 0 (m ++ [d]) = 10 * valD 0 m + (d.toNat - 48) := by simp [valD, List.foldl_append]
    have hpos : valD 0 m ≠ 0 := by
      intro e0
      rw [e0, pc_zero] at ih
      have := hz 48 [d] (by rw [ih]; rfl) rfl
      simp at this
    rw [e, pc_step (by omega), show (10 * valD 0 m + (d.toNat - 48)) / 10 = valD 0 m from by omega, ← ih, show 48 + (10 * valD 0 m + (d.toNat - 48)) % 10 = d.toNat from by omega]
    simp
theorem pc_len : ∀ (k n : Nat), (Lib.decDigits n).length ≤ k + 1 ↔ n < 10 ^ (k + 1)
  | 0, n => by
    by_cases h : n < 10
    · rw [pc_one h]; simp [h]
    · rw [pc_step h, List.length_append, List.length_singleton]
      have := List.length_pos_iff.2 (pc_ne (n / 10))
      simp only [Nat.zero_add, Nat.pow_one]
      omega
  | k + 1, n => by
    have hp : 10 ^ (k + 1 + 1) = 10 * 10 ^ (k + 1) := by rw [Nat.pow_succ, Nat.mul_comm]
    have hp1 : 1 ≤ 10 ^ (k + 1) := Nat.pos_of_ne_zero (by simp)
    by_cases h : n < 10
    · rw [pc_one h]; simp only [List.length_singleton]; omega
    · rw [pc_step h, List.length_append, List.length_singleton]
      have ih := pc_len k (n / 10)
      omega
/-- The number that cuRead tells of a text. -/
def cuL (l : List UInt8) : Int := if (1 ≤ l.length ∧ l.length ≤ 10) ∧ (¬ (l.head?.map (·.toNat) = some 48 ∧ 1 < l.length)) ∧ ∀ b ∈ l, isDig b then (valD 0 l : Int) else -1
theorem cuL_digits (n : Nat) : cuL (Lib.decDigits n) = if n < 10000000000 then (n : Int) else -1 := by
  have hlen := pc_len 9 n
  have hne := List.length_pos_iff.2 (pc_ne n)
  unfold cuL
  by_cases h : n < 10000000000
  · have hno : ¬ ((Lib.decDigits n).head?.map (·.toNat) = some 48 ∧ 1 < (Lib.decDigits n).length) := by
      rintro ⟨h1, h2⟩
      have hz := pc_noZero n
      cases e : Lib.decDigits n with
      | nil => exact pc_ne n e
      | cons b t =>
        rw [e] at h1 h2
        have := hz b t e (by simpa using h1)
        rw [this] at h2
        simp at h2
    rw [if_pos h, if_pos ⟨⟨by omega, hlen.2 (by simpa using h)⟩, hno, pc_all n⟩, pc_val]
  · rw [if_neg h, if_neg]
    rintro ⟨⟨_, h1⟩, _⟩
    exact h (by simpa using hlen.1 h1)
theorem cuL_cases (l : List UInt8) : cuL l = -1 ∨ ∃ n : Nat, n < 10000000000 ∧ l = Lib.decDigits n ∧ cuL l = n := by
  by_cases h : (1 ≤ l.length ∧ l.length ≤ 10) ∧ (¬ (l.head?.map (·.toNat) = some 48 ∧ 1 < l.length)) ∧ ∀ b ∈ l, isDig b
  · right
    have e := pc_conv (l.length - 1) l (by omega) h.2.2 (fun b t e hb => by
      by_cases ht : t = []
      · exact ht
      · exfalso
        refine h.2.1 ⟨by rw [e]; simpa using hb, ?_⟩
        have := List.length_pos_iff.2 ht
        rw [e, List.length_cons]
        omega)
    have hlt : valD 0 l < 10000000000 := by
      have := (pc_len 9 (valD 0 l)).1 (by rw [← e]; exact h.1.2)
      simpa using this
    refine ⟨valD 0 l, hlt, e, ?_⟩
    unfold cuL
    rw [if_pos h]
  · left
    unfold cuL
    rw [if_neg h]
theorem digs_cons (a : Nat) (x : UInt8) (t : List UInt8) (hx : isDig x) : (if ∀ b ∈ x :: t, isDig b then (valD a (x :: t) : Int) else -1) = (if ∀ b ∈ t, isDig b then (valD (10 * a + (x.toNat - 48)) t : Int) else -1) := by
  by_cases hall : ∀ b ∈ t, isDig b
  · rw [if_pos hall, if_pos (fun b hb => by
      rcases List.mem_cons.1 hb with rfl | hb
      · exact hx
      · exact hall b hb)]
    rfl
  · rw [if_neg hall, if_neg (fun h => hall (fun b hb => h b (List.mem_cons_of_mem _ hb)))]
theorem cuRead_l0 (s : ByteArray) (hs : s.size ≤ 10) : ∀ (i : Nat) (a : Nat), i ≤ s.size → a < 10 ^ i → Ev (fun k => spec_cuRead.l0 k s (a : Int) (i : Int)) (if ∀ b ∈ s.data.toList.drop i, isDig b then (valD a (s.data.toList.drop i) : Int) else -1) := by
  have hL := list_size s
  intro i a hi ha
  have key := range (n := s.size) (fun (a : Nat) i k => spec_cuRead.l0 k s (a : Int) i) (fun i a => if ∀ b ∈ s.data.toList.drop i, isDig b then (valD a (s.data.toList.drop i) : Int) else -1) (fun i a => a < 10 ^ i) (by
    intro a ha
    refine Ev.step (fun k => by rw [spec_cuRead.l0]) ?_
    rw [List.drop_of_length_le (by omega), if_pos (by simp)]
    exact Ev.neg (by omega) (Ev.now _)) (by
    intro i a hi ha ih
    refine Ev.step (fun k => by rw [spec_cuRead.l0]) ?_
    have hi' : i < s.data.toList.length := by omega
    have hd : s.data.toList.drop i = s.data.toList[i] :: s.data.toList.drop (i + 1) := List.drop_eq_getElem_cons hi'
    have hb := bt_list s i hi'
    have hpw : (10 : Nat) ^ i ≤ 10 ^ 9 := Nat.pow_le_pow_right (by decide) (by omega)
    refine Ev.pos (by omega) (Ev.pos (by omega) ?_)
    rw [hb, hd]
    by_cases h1 : ((s.data.toList[i].toNat : Nat) : Int) < 48
    · refine Ev.pos h1 ?_
      rw [if_neg (fun h => by have := h _ List.mem_cons_self; unfold isDig at this; omega)]
      exact Ev.now _
    · refine Ev.neg h1 ?_
      by_cases h2 : ((s.data.toList[i].toNat : Nat) : Int) > 57
      · refine Ev.pos h2 ?_
        rw [if_neg (fun h => by have := h _ List.mem_cons_self; unfold isDig at this; omega)]
        exact Ev.now _
      · refine Ev.neg h2 ?_
        have hlt : 10 * a + (s.data.toList[i].toNat - 48) < 10 ^ (i + 1) := by rw [Nat.pow_succ]; omega
        have h3 := ih (10 * a + (s.data.toList[i].toNat - 48)) hlt
        rw [wrap_succ hi (by omega), wrap_id (x := 10 * (a : Int)) (by omega) (by omega), show (((s.data.toList[i].toNat : Nat) : Int) - 48) % 256 = ((s.data.toList[i].toNat - 48 : Nat) : Int) from by omega, wrap_id (by omega) (by omega)]
        have e1 : 10 * (a : Int) + ((s.data.toList[i].toNat - 48 : Nat) : Int) = ((10 * a + (s.data.toList[i].toNat - 48) : Nat) : Int) := by push_cast; rfl
        rw [e1]
        rw [digs_cons a _ _ (by unfold isDig; omega)]
        exact h3)
  exact key i a hi ha
theorem cuRead_ev (s : ByteArray) : Ev (fun k => spec_cuRead.f k s) (cuL s.data.toList) := by
  have hL := list_size s
  refine Ev.congr (fun k => by rw [spec_cuRead.f, l1In_eq]) ?_
  refine Ev.some_ ?_
  by_cases h1 : (1 : Int) ≤ (s.size : Int) ∧ (s.size : Int) ≤ 10
  · rw [decide_eq_true h1]
    refine Ev.pos rfl (Ev.pos (by omega) ?_)
    have hne : s.data.toList ≠ [] := fun e => by rw [e] at hL; simp at hL; omega
    obtain ⟨b, t, e⟩ : ∃ b t, s.data.toList = b :: t := by
      cases e : s.data.toList with
      | nil => exact absurd e hne
      | cons b t => exact ⟨b, t, rfl⟩
    have hb : bt s 0 = (b.toNat : Int) := by
      have := bt_list s 0 (by omega)
      simp only [e] at this
      simpa using this
    have hl0 := cuRead_l0 s (by omega) 0 0 (by omega) (by simp)
    rw [List.drop_zero] at hl0
    have fin : ¬ (b.toNat = 48 ∧ 1 < s.size) → Ev (fun k => spec_cuRead.l0 k s 0 0) (cuL s.data.toList) := fun hno => by
      have e2 : cuL s.data.toList = if ∀ b ∈ s.data.toList, isDig b then (valD 0 s.data.toList : Int) else -1 := by
        unfold cuL
        by_cases hall : ∀ b ∈ s.data.toList, isDig b
        · rw [if_pos hall, if_pos ⟨⟨by omega, by omega⟩, fun hx => hno ⟨by have := hx.1; rw [e] at this; simpa using this, by omega⟩, hall⟩]
        · rw [if_neg hall, if_neg (fun hx => hall hx.2.2)]
      rw [e2]
      exact hl0
    rw [hb]
    by_cases h2 : (b.toNat : Int) = 48
    · refine Ev.pos h2 (Ev.step (fun k => by rw [spec_cuRead.j0]) ?_)
      by_cases h3 : (s.size : Int) > 1
      · rw [decide_eq_true h3]
        refine Ev.pos rfl ?_
        have e2 : cuL s.data.toList = -1 := by
          unfold cuL
          rw [if_neg (fun hx => hx.2.1 ⟨by rw [e]; simp; omega, by omega⟩)]
        rw [e2]
        exact Ev.now _
      · rw [decide_eq_false h3]
        exact Ev.neg (by decide) (fin (fun hx => h3 (by omega)))
    · refine Ev.neg h2 (Ev.step (fun k => by rw [spec_cuRead.j0]) ?_)
      exact Ev.neg (by decide) (fin (fun hx => h2 (by omega)))
  · rw [decide_eq_false h1]
    refine Ev.neg (by decide) (Ev.step (fun k => by rw [spec_cuRead.j0]) (Ev.pos rfl ?_))
    have e2 : cuL s.data.toList = -1 := by
      unfold cuL
      rw [if_neg (fun hx => h1 (by omega))]
    rw [e2]
    exact Ev.now _
theorem cuParse_l0 (parts : List ByteArray) (L : List ByteArray) (hl : L.length ≤ 1048576) (h1 : 1 < parts.length) : Ev (fun k => spec_cuParse.l0 k parts L (L.length : Int) 0 [] 0) (if goodC (L.map fun p => cuL p.data.toList) (cuL (rdOf ByteArray.empty parts 1).data.toList) then (L.map fun p => cuL p.data.toList, cuL (rdOf ByteArray.empty parts 1).data.toList, true) else ([], 0, false)) := by
  have key := range (n := L.length) (fun (x : List Int) i k => spec_cuParse.l0 k parts L (L.length : Int) i x 0) (fun _ _ => if goodC (L.map fun p => cuL p.data.toList) (cuL (rdOf ByteArray.empty parts 1).data.toList) then (L.map fun p => cuL p.data.toList, cuL (rdOf ByteArray.empty parts 1).data.toList, true) else ([], 0, false)) (fun i x => x = (L.take i).map fun p => cuL p.data.toList) (by
    intro x hx
    refine Ev.step (fun k => by rw [spec_cuParse.l0]) ?_
    rw [hx, List.take_length]
    refine Ev.neg (by omega) (Ev.pos (by omega) (Ev.bind (cuRead_ev _) (Ev.bind (cuGood_ev _ _ (by rw [List.length_map]; exact hl)) ?_)))
    cases h : goodC (L.map fun p => cuL p.data.toList) (cuL (rdOf ByteArray.empty parts 1).data.toList) with
    | true => exact Ev.pos rfl (Ev.now _)
    | false => exact Ev.neg (by decide) (Ev.now _)) (by
    intro i x hi hx ih
    refine Ev.step (fun k => by rw [spec_cuParse.l0]) ?_
    have hxl : x.length ≤ i := by rw [hx, List.length_map, List.length_take]; omega
    refine Ev.pos (by omega) (Ev.pos (by omega) (Ev.pos (by omega) ?_))
    rw [rdB hi]
    refine Ev.bind (cuRead_ev _) (Ev.pos (by omega) ?_)
    rw [wrap_succ hi (by omega)]
    exact ih _ (by rw [hx, List.take_succ_eq_append_getElem hi, List.map_append]; rfl))
  exact key 0 [] (Nat.zero_le _) rfl
theorem indexByte_no {c : UInt8} : ∀ {l : List UInt8}, c ∉ l → Lib.indexByte l c = -1
  | [], _ => rfl
  | b :: t, h => by
    have hb : ¬ (b == c) = true := fun e => h (by rw [beq_iff_eq.1 e]; exact List.mem_cons_self)
    rw [Lib.indexByte, if_neg hb, indexByte_no (fun hm => h (List.mem_cons_of_mem _ hm))]
    rfl
theorem indexByte_at {c : UInt8} (b : List UInt8) : ∀ {a : List UInt8}, c ∉ a → Lib.indexByte (a ++ c :: b) c = a.length
  | [], _ => by rw [List.nil_append, Lib.indexByte, if_pos (by simp)]; rfl
  | x :: a, h => by
    have hb : ¬ (x == c) = true := fun e => h (by rw [beq_iff_eq.1 e]; exact List.mem_cons_self)
    have ih := indexByte_at b (a := a) (fun hm => h (List.mem_cons_of_mem _ hm))
    rw [List.cons_append, Lib.indexByte, if_neg hb, ih, if_neg (by first | (simp; done) | (simp; omega)), List.length_cons]
    push_cast
    rfl
theorem cut_none {c : UInt8} {l : List UInt8} (h : c ∉ l) : Lib.cut l [c] = (l, [], false) := by
  unfold Lib.cut
  rw [Lib.index_one, indexByte_no h, if_neg (by decide)]
theorem cut_at {c : UInt8} {a : List UInt8} (b : List UInt8) (h : c ∉ a) : Lib.cut (a ++ c :: b) [c] = (a, b, true) := by
  unfold Lib.cut
  rw [Lib.index_one, indexByte_at b h, if_pos (by omega), Int.toNat_natCast, List.take_left' rfl, show a.length + [c].length = a.length + 1 from rfl, drop_at]
theorem valD_ge : ∀ (l : List UInt8) (a : Nat), a ≤ valD a l
  | [], a => Nat.le_refl _
  | c :: r, a => by
    have := valD_ge r (10 * a + (c.toNat - 48))
    show a ≤ valD (10 * a + (c.toNat - 48)) r
    omega
theorem parse_digits : ∀ (l : List UInt8) (a : Nat), (∀ b ∈ l, isDig b) → valD a l < 9223372036854775808 → Lib.parseUint10 a l = .ok (valD a l)
  | [], a, _, _ => rfl
  | c :: r, a, h, hv => by
    have hc := h c List.mem_cons_self
    unfold isDig at hc
    have hv' : valD (10 * a + (c.toNat - 48)) r < 9223372036854775808 := hv
    have hge := valD_ge r (10 * a + (c.toNat - 48))
    have ih := parse_digits r (10 * a + (c.toNat - 48)) (fun b hb => h b (List.mem_cons_of_mem _ hb)) hv'
    rw [Lib.parseUint10, if_pos hc, if_neg (by omega), if_neg (by omega), Nat.mul_comm a 10, ih]
    rfl
theorem atoi_digits (n : Nat) (hn : n < 9223372036854775808) : Lib.atoiAll (Lib.decDigits n) = .ok (n : Int) := by
  have hp : Lib.parseMag (Lib.decDigits n) = .ok n := by
    unfold Lib.parseMag
    rw [if_neg (pc_ne n), parse_digits _ 0 (pc_all n) (by rw [pc_val]; exact hn), pc_val]
  have hall := pc_all n
  cases e : Lib.decDigits n with
  | nil => exact absurd e (pc_ne n)
  | cons c r =>
    rw [e] at hp hall
    have hc := hall c List.mem_cons_self
    unfold isDig at hc
    have h45 : ¬ c.toNat = 45 := by omega
    have h43 : ¬ c.toNat = 43 := by omega
    unfold Lib.atoiAll
    simp only [h43, h45, or_self, if_false, not_false_eq_true, true_and, false_and]
    rw [hp]
    dsimp only
    rw [if_neg (by omega)]
theorem numV_digits {s : ByteArray} {n : Nat} (h : s.data.toList = Lib.decDigits n) (hn : n < 9223372036854775808) : numV s = (n : Int) := by
  unfold numV
  rw [h, atoi_digits n hn]
  dsimp only
  rw [if_neg (by omega), if_pos (by rw [pc_itoa, ByteArray.toList_eq, h])]
theorem numV_cases (s : ByteArray) : numV s = -1 ∨ ∃ n : Nat, n < 9223372036854775808 ∧ s.data.toList = Lib.decDigits n ∧ numV s = n := by
  unfold numV
  cases hA : Lib.atoiAll s.data.toList with
  | ok v =>
    dsimp only
    have hr := NumV.range hA
    by_cases h1 : v < 0
    · rw [if_pos h1]; exact .inl rfl
    · rw [if_neg h1]
      by_cases h2 : Lib.itoa v = s.toList
      · rw [if_pos h2]
        obtain ⟨n, rfl⟩ := Int.eq_ofNat_of_zero_le (by omega : 0 ≤ v)
        rw [pc_itoa, ByteArray.toList_eq] at h2
        exact .inr ⟨n, by omega, h2.symm, rfl⟩
      · rw [if_neg h2]; exact .inl rfl
  | «syntax» => exact .inl rfl
  | range => exact .inl rfl
/-- What the two readers tell of a text. -/
theorem num_rel (s : ByteArray) : numV s = cuL s.data.toList ∨ (cuL s.data.toList = -1 ∧ 10000000000 ≤ numV s) := by
  rcases numV_cases s with h | ⟨n, hn, hs, hv⟩
  · rcases cuL_cases s.data.toList with h' | ⟨m, hm, hs', _⟩
    · exact .inl (h.trans h'.symm)
    · have := numV_digits hs' (by omega)
      omega
  · have e := cuL_digits n
    rw [← hs] at e
    by_cases c : n < 10000000000
    · rw [if_pos c] at e; exact .inl (hv.trans e.symm)
    · rw [if_neg c] at e; exact .inr ⟨e, by omega⟩
theorem number_eq (s : ByteArray) (h : s.size ≤ 281474976710656) : impl_number.f s = some (numV s) := by
  unfold impl_number.f
  rw [if_pos h]
/-- A number that is not too great has a short text. -/
theorem num_short {s : ByteArray} (h : 0 ≤ numV s) (h' : numV s < 10000000000) : s.data.toList.length ≤ 10 := by
  rcases numV_cases s with e | ⟨n, hn, hs, hv⟩
  · omega
  · rw [hs]
    exact (pc_len 9 n).2 (by simp; omega)
theorem splitB_spl (c : UInt8) : ∀ (n : Nat) (s : ByteArray), s.size ≤ n → Lib.splitB (mkB [c]) 0 (Lib.countB s (mkB [c])) s = (spl c s.data.toList).map mkB
  | n, s, hn => by
    have hL := list_size s
    by_cases hc : c ∈ s.data.toList
    · obtain ⟨a, b, e, ha⟩ := List.eq_append_cons_of_mem hc
      have hi : Lib.indexB s (mkB [c]) = (a.length : Int) := by
        show Lib.index s.data.toList [c] = _
        rw [Lib.index_one, e, indexByte_at b ha]
      have hlen : a.length + (b.length + 1) = s.size := by rw [← hL, e, List.length_append, List.length_cons]
      have hrest : s.extract (a.length + (mkB [c]).size) s.size = mkB b := by
        rw [ext_list, show (mkB [c]).size = 1 from rfl, List.take_of_length_le (by omega), e, drop_at]
      have hrs : (mkB b).size = b.length := by rw [← list_size, mkB_list]
      rw [Lib.countB_hit s (mkB [c]) a.length (by exact Nat.le_refl 1) hi, Nat.add_comm 1, Lib.splitB_hit _ _ _ s a.length hi, hrest]
      cases n with
      | zero => omega
      | succ n =>
        rw [splitB_spl c n (mkB b) (by omega), mkB_list, e, spl_at b ha, List.map_cons, ext_list, e]
        simp
    · have hi : Lib.indexB s (mkB [c]) = -1 := by
        show Lib.index s.data.toList [c] = _
        rw [Lib.index_one, indexByte_no hc]
      rw [Lib.countB_miss s _ hi, Lib.splitB_zero, spl_none hc, List.map_cons, List.map_nil, mkB_of]
theorem spl_mem_len (c : UInt8) : ∀ (l : List UInt8), ∀ p ∈ spl c l, p.length ≤ l.length
  | [], p, h => by simp [spl] at h; simp [h]
  | b :: t, p, h => by
    by_cases hb : b = c
    · rw [hb, spl_cons_eq] at h
      rcases List.mem_cons.1 h with rfl | h
      · simp
      · have := spl_mem_len c t p h; rw [List.length_cons]; omega
    · rw [spl_cons_ne hb] at h
      have ih := spl_mem_len c t
      cases e : spl c t with
      | nil => exact absurd e (spl_ne c t)
      | cons x r =>
        rw [e] at h ih
        simp only [glue] at h
        rcases List.mem_cons.1 h with rfl | h
        · have := ih x List.mem_cons_self; simp; omega
        · have := ih p (List.mem_cons_of_mem _ h); rw [List.length_cons]; omega
theorem split_ev (s : ByteArray) (c : UInt8) (hs : s.size ≤ 1048576) : Ev (fun k => impl_split.f k s (mkB [c])) (((spl c s.data.toList).map mkB).map numV) := by
  have hL := list_size s
  have hlen := spl_len c s.data.toList
  have hmem : ∀ p ∈ (spl c s.data.toList).map mkB, p.size ≤ 281474976710656 := fun p hp => by
    obtain ⟨q, hq, rfl⟩ := List.mem_map.1 hp
    have := spl_mem_len c _ q hq
    rw [← list_size, mkB_list]
    omega
  have hl : ((spl c s.data.toList).map mkB).length ≤ 1048577 := by rw [List.length_map]; omega
  refine Ev.bind (Ev.const (show strings_Split.f s (mkB [c]) = some ((spl c s.data.toList).map mkB) from by
    unfold strings_Split.f
    rw [if_pos (by omega), if_pos (by exact Nat.le_refl 1), splitB_spl c s.size s (Nat.le_refl _)])) ?_
  generalize (spl c s.data.toList).map mkB = L at hmem hl ⊢
  have key := range (n := L.length) (fun (x : List Int) i k => impl_split.l0 k x L (L.length : Int) i) (fun _ _ => L.map numV) (fun i x => x = (L.take i).map numV) (by
    intro x hx
    refine Ev.step (fun k => by rw [impl_split.l0]) ?_
    rw [hx, List.take_length]
    exact Ev.neg (by omega) (Ev.now _)) (by
    intro i x hi hx ih
    refine Ev.step (fun k => by rw [impl_split.l0]) ?_
    have hxl : x.length ≤ i := by rw [hx, List.length_map, List.length_take]; omega
    refine Ev.pos (by omega) (Ev.pos (by omega) (Ev.pos (by omega) ?_))
    rw [rdB hi, number_eq _ (hmem _ (List.getElem_mem hi))]
    refine Ev.some_ (Ev.pos (by omega) ?_)
    rw [wrap_succ hi (by omega)]
    exact ih _ (by rw [hx, List.take_succ_eq_append_getElem hi, List.map_append]; rfl))
  exact key 0 [] (Nat.zero_le _) rfl
theorem within_eq (a b c : Int) : impl_within.f a b c = some (decide (b ≤ a ∧ a ≤ c)) := by
  unfold impl_within.f
  by_cases h : a ≥ b
  · rw [if_pos h]; simp [h]
  · rw [if_neg h]; simp [h]
theorem areIn_eq (l : List Int) (a b : Int) : impl_areIn.f l a b = some (l.all fun x => decide (a ≤ x ∧ x ≤ b)) := rfl
theorem areCups_any (l : List Int) (u : Int) : Ev (fun k => impl_AreCups.f k l u) (goodC l u) := by
  have hno : ∀ b, b = true → Ev (fun k => impl_AreCups.j0 k b l u) false := fun b hb => by
    refine Ev.step (fun k => by rw [impl_AreCups.j0]) ?_
    exact Ev.pos hb (Ev.now _)
  refine Ev.congr (fun k => by rw [impl_AreCups.f, within_eq, within_eq]) ?_
  refine Ev.some_ ?_
  unfold goodC unitC
  by_cases h1 : (2 : Int) ≤ (l.length : Int) ∧ (l.length : Int) ≤ 6
  · rw [decide_eq_true h1, Bool.true_and]
    refine Ev.pos rfl (Ev.some_ ?_)
    by_cases h2 : 1 ≤ u ∧ u ≤ 1048576
    · rw [decide_eq_true h2, Bool.true_and]
      refine Ev.pos rfl ?_
      rw [show (Go.bits .and .i64 u (wrap64 (u - 1)) != 0) = !(pow2 u) from rfl]
      cases h3 : pow2 u with
      | false => rw [Bool.false_and]; exact hno _ rfl
      | true =>
        rw [Bool.true_and]
        refine Ev.step (fun k => by rw [impl_AreCups.j0]) ?_
        refine Ev.neg (by decide) ?_
        rw [wrap_id (by omega) (by omega), areIn_eq, show slices_ContainsFunc_int_int.f l 61 = some (l.any oddB) from if_pos ⟨by decide, .inl rfl⟩]
        refine Ev.some_ (Ev.some_ ?_)
        change Ev (fun _ => if allIn l 0 (1000 * u) = true then _ else _) _
        cases h4 : allIn l 0 (1000 * u) with
        | false => rw [Bool.false_and]; exact Ev.neg (by decide) (Ev.now _)
        | true =>
          rw [Bool.true_and]
          refine Ev.pos rfl ?_
          by_cases h5 : u = 1
          · rw [decide_eq_true h5, Bool.true_or]; exact Ev.pos h5 (Ev.now _)
          · rw [decide_eq_false h5, Bool.false_or]; exact Ev.neg h5 (Ev.now _)
    · rw [decide_eq_false h2, Bool.false_and, Bool.false_and]
      exact Ev.neg (by decide) (hno true rfl)
  · rw [decide_eq_false h1, Bool.false_and]
    exact Ev.neg (by decide) (hno true rfl)
theorem areCups_ev (l : List Int) (u : Int) (hl : l.length ≤ 1048576) : Ev (fun k => impl_AreCups.f k l u) (goodC l u) := areCups_any l u
theorem goodC_facts {l : List Int} {u : Int} (h : goodC l u = true) : l.length ≤ 6 ∧ 1 ≤ u ∧ u ≤ 1048576 ∧ ∀ x ∈ l, 0 ≤ x ∧ x ≤ 1048576000 := by
  unfold goodC unitC at h
  simp only [Bool.and_eq_true, decide_eq_true_eq] at h
  obtain ⟨h1, ⟨h2, _⟩, h3, _⟩ := h
  refine ⟨by omega, h2.1, h2.2, fun x hx => ?_⟩
  have := allIn_iff.1 h3 x hx
  omega
theorem goodC_no {l : List Int} {u : Int} (h : u < 1) : goodC l u = false := by
  cases e : goodC l u with
  | false => rfl
  | true => have := goodC_facts e; omega
def parsed (P : List Int) (U : Int) : List Int × Int × Bool := if goodC P U then (P, U, true) else ([], 0, false)
theorem iParse_ev (s : ByteArray) (hs : s.size ≤ 1048576) (a b : List UInt8) (f : Bool) (hc : Lib.cut s.data.toList [47] = (a, b, f)) (ha : a.length ≤ 1048576) (hb : b.length ≤ 1048576) :
    Ev (fun k => impl_ParseCups.f k s) (parsed (((spl 45 a).map mkB).map numV) (numV (mkB b))) := by
  have hC : strings_Cut.f s (⟨#[47]⟩ : ByteArray) = some (mkB a, mkB b, f) := by
    unfold strings_Cut.f
    rw [if_pos (by omega), show (⟨#[47]⟩ : ByteArray).data.toList = [47] from rfl, hc]
    rfl
  have sa : (mkB a).size = a.length := by rw [← list_size, mkB_list]
  have sb : (mkB b).size = b.length := by rw [← list_size, mkB_list]
  have hS := split_ev (mkB a) 45 (by omega)
  rw [mkB_list] at hS
  refine Ev.bind (Ev.const hC) (Ev.bind hS (Ev.bind (Ev.const (number_eq (mkB b) (by omega))) (Ev.bind (areCups_any _ _) ?_)))
  unfold parsed
  cases goodC (((spl 45 a).map mkB).map numV) (numV (mkB b)) with
  | true => exact Ev.pos rfl (Ev.now _)
  | false => exact Ev.neg (by decide) (Ev.now _)
theorem sParse_no (s : ByteArray) (hs : s.size ≤ 1048576) (h : s.size > 80 ∨ (spl 47 s.data.toList).length ≠ 2) : Ev (fun k => spec_ParseCups.f k s) ([], 0, false) := by
  have hl : ((spl 47 s.data.toList).map mkB).length = (spl 47 s.data.toList).length := List.length_map _
  refine Ev.bind (a := (([], 0, false) : List Int × Int × Bool)) (Ev.bind (l1Split_ev s 47 hs) ?_) (Ev.now _)
  by_cases h1 : (s.size : Int) > 80
  · exact Ev.pos h1 (Ev.step (fun k => by rw [spec_cuParse.j0]) (Ev.pos rfl (Ev.now _)))
  · refine Ev.neg h1 (Ev.step (fun k => by rw [spec_cuParse.j0]) (Ev.pos ?_ (Ev.now _)))
    rw [bne_iff_ne]
    omega
theorem sParse_two (s : ByteArray) (hs : s.size ≤ 80) (a b : List UInt8) (h : spl 47 s.data.toList = [a, b]) (ha : a.length ≤ 80) : Ev (fun k => spec_ParseCups.f k s) (parsed (((spl 45 a).map mkB).map fun p => cuL p.data.toList) (cuL b)) := by
  have hS := l1Split_ev s 47 (by omega)
  rw [h] at hS
  have sa : (mkB a).size = a.length := by rw [← list_size, mkB_list]
  have hA := l1Split_ev (mkB a) 45 (by omega)
  rw [mkB_list] at hA
  have hl := spl_len 45 a
  have h0 := cuParse_l0 [mkB a, mkB b] ((spl 45 a).map mkB) (by rw [List.length_map]; omega) (by simp)
  rw [show rdOf ByteArray.empty [mkB a, mkB b] 1 = mkB b from rfl, mkB_list] at h0
  refine Ev.bind (a := parsed (((spl 45 a).map mkB).map fun p => cuL p.data.toList) (cuL b)) (Ev.bind hS ?_) (Ev.now _)
  refine Ev.neg (by omega) (Ev.step (fun k => by rw [spec_cuParse.j0]) (Ev.neg (by simp) (Ev.pos (by simp) ?_)))
  rw [show rdOf ByteArray.empty (List.map mkB [a, b]) 0 = mkB a from rfl]
  exact Ev.bind hA h0
theorem num_none {b : List UInt8} (h : 47 ∈ b ∨ b = []) : numV (mkB b) = -1 := by
  rcases numV_cases (mkB b) with e | ⟨n, _, e, _⟩
  · exact e
  · rw [mkB_list] at e
    rcases h with h | h
    · have := pc_all n 47 (by rw [← e]; exact h)
      unfold isDig at this
      exact absurd this.1 (by decide)
    · exact absurd (e.symm.trans h) (pc_ne n)
theorem parsed_same (L : List ByteArray) (c : ByteArray) : parsed (L.map numV) (numV c) = parsed (L.map fun p => cuL p.data.toList) (cuL c.data.toList) := by
  have same : (∀ p ∈ L, numV p = cuL p.data.toList) → numV c = cuL c.data.toList → L.map numV = (L.map fun p => cuL p.data.toList) ∧ numV c = cuL c.data.toList := fun h1 h2 => ⟨List.map_congr_left h1, h2⟩
  have hA : goodC (L.map numV) (numV c) = true → L.map numV = (L.map fun p => cuL p.data.toList) ∧ numV c = cuL c.data.toList := fun h => by
    have hf := goodC_facts h
    refine same (fun p hp => ?_) ?_
    · have := hf.2.2.2 (numV p) (List.mem_map_of_mem hp)
      rcases num_rel p with e | ⟨_, e⟩
      · exact e
      · omega
    · rcases num_rel c with e | ⟨_, e⟩
      · exact e
      · omega
  have hB : goodC (L.map fun p => cuL p.data.toList) (cuL c.data.toList) = true → L.map numV = (L.map fun p => cuL p.data.toList) ∧ numV c = cuL c.data.toList := fun h => by
    have hf := goodC_facts h
    refine same (fun p hp => ?_) ?_
    · have := hf.2.2.2 (cuL p.data.toList) (List.mem_map_of_mem (f := fun p : ByteArray => cuL p.data.toList) hp)
      rcases num_rel p with e | ⟨e, _⟩
      · exact e
      · omega
    · rcases num_rel c with e | ⟨e, _⟩
      · exact e
      · omega
  cases h1 : goodC (L.map numV) (numV c) with
  | true => rw [(hA h1).1, (hA h1).2]
  | false =>
    cases h2 : goodC (L.map fun p => cuL p.data.toList) (cuL c.data.toList) with
    | true => rw [(hB h2).1, (hB h2).2]
    | false => unfold parsed; rw [h1, h2]; rfl
theorem parsed_long {a b : List UInt8} (h : 80 < a.length + (b.length + 1)) : parsed (((spl 45 a).map mkB).map numV) (numV (mkB b)) = ([], 0, false) := by
  cases h1 : goodC (((spl 45 a).map mkB).map numV) (numV (mkB b)) with
  | false => unfold parsed; rw [h1]; rfl
  | true =>
    exfalso
    have hf := goodC_facts h1
    have hb := num_short (s := mkB b) (by omega) (by omega)
    rw [mkB_list] at hb
    have ha := spl_short 45 10 a (fun p hp => by
      have := hf.2.2.2 (numV (mkB p)) (List.mem_map_of_mem (List.mem_map_of_mem hp))
      have := num_short (s := mkB p) (by omega) (by omega)
      rwa [mkB_list] at this)
    have hl := hf.1
    rw [List.length_map, List.length_map] at hl
    omega
theorem eqIntS_ev (l m : List Int) (hl : l.length ≤ 1048576) (h : l = m) : Ev (fun k => laws_eqIntS.f k l m) true := by
  subst h
  have key := range (n := l.length) (fun (_ : Unit) i k => laws_eqIntS.l0 k l l i) (fun _ _ => true) (fun _ _ => True) (by
    intro s _
    refine Ev.step (fun k => by rw [laws_eqIntS.l0]) ?_
    exact Ev.neg (by omega) (Ev.now _)) (by
    intro i s hi _ ih
    refine Ev.step (fun k => by rw [laws_eqIntS.l0]) ?_
    refine Ev.pos (by omega) (Ev.pos (by omega) (Ev.pos (by omega) (Ev.pos rfl ?_)))
    rw [wrap_succ hi (by omega)]
    exact ih s trivial)
  exact Ev.pos rfl (key 0 () (by omega) trivial)
theorem eqCups_ev (l m : List Int) (u v : Int) (hl : l.length ≤ 1048576) (h : l = m) (hu : u = v) : Ev (fun k => laws_eqCups.f k l u m v) true := by
  refine Ev.congr (fun k => by rw [laws_eqCups.f]) ?_
  exact Ev.bind (eqIntS_ev l m hl h) (Ev.pos rfl (Ev.pos hu (Ev.now _)))
theorem markIntS_ev (l : List Int) (a : Int) (hl : l.length ≤ 1048576) (ha : 0 ≤ a) (ha2 : a ≤ 1099511627776) : Ev (fun k => laws_markIntS.f k l a) (a + l.length, upFrom a l.length) := by
  have key := range (n := l.length) (fun (s : List Int × Int) i k => laws_markIntS.l0 k s.1 s.2 i) (fun _ _ => (a + l.length, upFrom a l.length)) (fun i s => s.1.length = l.length ∧ s.1.take i = upFrom a i ∧ s.2 = a + i) (by
    intro s ⟨h1, h2, h3⟩
    refine Ev.step (fun k => by rw [laws_markIntS.l0]) ?_
    refine Ev.neg (by omega) ?_
    rw [List.take_of_length_le (by omega)] at h2
    rw [h2, h3]
    exact Ev.now _) (by
    intro i s hi ⟨h1, h2, h3⟩ ih
    refine Ev.step (fun k => by rw [laws_markIntS.l0]) ?_
    refine Ev.pos (by omega) (Ev.pos (by omega) ?_)
    rw [wrap_succ hi (by omega), Int.toNat_natCast, wrap_id (by omega) (by omega)]
    refine ih (s.1.set i s.2, s.2 + 1) ⟨by simpa using h1, ?_, by simp only; omega⟩
    have hs : i < s.1.length := by omega
    simp only
    rw [upFrom_snoc, ← h2, List.take_succ_eq_append_getElem (by simpa using hs), List.take_set_of_le (Nat.le_refl _)]
    simp [h3])
  exact key 0 (l, a) (by omega) ⟨rfl, by simp [upFrom], by simp⟩
theorem heldIntS_ev (n : Nat) (a : Int) (hl : n ≤ 1048576) (ha : 0 ≤ a) (ha2 : a ≤ 1099511627776) : Ev (fun k => laws_heldIntS.f k (upFrom a n) a) (a + n) := by
  have hlen := upFrom_length a n
  have key := range (n := n) (fun (s : Int) i k => laws_heldIntS.l0 k (upFrom a n) s i) (fun _ _ => a + n) (fun i s => s = a + i) (by
    intro s hs
    refine Ev.step (fun k => by rw [laws_heldIntS.l0]) ?_
    rw [hs]
    exact Ev.neg (by omega) (Ev.now _)) (by
    intro i s hi hs ih
    refine Ev.step (fun k => by rw [laws_heldIntS.l0]) ?_
    refine Ev.pos (by omega) (Ev.pos (by omega) (Ev.pos ?_ ?_))
    · rw [rd_get (by omega), upFrom_get, hs]
    · rw [wrap_succ hi (by omega), wrap_id (by omega) (by omega)]
      exact ih _ (by omega))
  exact key 0 a (by omega) (by simp)
theorem parsed_len (P : List Int) (U : Int) : (parsed P U).1.length ≤ 6 := by
  unfold parsed
  cases h : goodC P U with
  | true => exact (goodC_facts h).1
  | false => simp
theorem both_ParseCups (s : ByteArray) (hs : s.size ≤ 1048576) : ∃ w : List Int × Int × Bool, Ev (fun k => spec_ParseCups.f k s) w ∧ Ev (fun k => impl_ParseCups.f k s) w ∧ w.1.length ≤ 1048576 := by
  have hL := list_size s
  by_cases h47 : (47 : UInt8) ∈ s.data.toList
  · obtain ⟨a, b, e, ha⟩ := List.eq_append_cons_of_mem h47
    have hlen : a.length + (b.length + 1) = s.size := by rw [← hL, e, List.length_append, List.length_cons]
    have hI := iParse_ev s hs a b true (by rw [e]; exact cut_at b ha) (by omega) (by omega)
    have hsp : spl 47 s.data.toList = a :: spl 47 b := by rw [e]; exact spl_at b ha
    by_cases h2 : (47 : UInt8) ∈ b
    · rw [num_none (.inl h2)] at hI
      have e0 : parsed (((spl 45 a).map mkB).map numV) (-1) = ([], 0, false) := by unfold parsed; rw [goodC_no (by decide)]; rfl
      rw [e0] at hI
      obtain ⟨a', b', e', ha'⟩ := List.eq_append_cons_of_mem h2
      have hne := List.length_pos_iff.2 (spl_ne 47 b')
      refine ⟨_, sParse_no s hs (.inr ?_), hI, by simp⟩
      rw [hsp, e', spl_at b' ha', List.length_cons, List.length_cons]
      omega
    · rw [spl_none h2] at hsp
      by_cases h80 : s.size > 80
      · rw [parsed_long (by omega)] at hI
        exact ⟨_, sParse_no s hs (.inl h80), hI, by simp⟩
      · have hS := sParse_two s (by omega) a b hsp (by omega)
        rw [parsed_same, mkB_list] at hI
        exact ⟨_, hS, hI, by have := parsed_len (((spl 45 a).map mkB).map fun p => cuL p.data.toList) (cuL b); omega⟩
  · have hI := iParse_ev s hs s.data.toList [] false (cut_none h47) (by omega) (by simp)
    rw [num_none (.inr rfl)] at hI
    have e0 : parsed (((spl 45 s.data.toList).map mkB).map numV) (-1) = ([], 0, false) := by unfold parsed; rw [goodC_no (by decide)]; rfl
    rw [e0] at hI
    exact ⟨_, sParse_no s hs (.inr (by rw [spl_none h47]; simp)), hI, by simp⟩
theorem FnExactParseCups : laws_FnExactParseCups.Pure := by
  intro s h
  refine Ev.rounds ?_
  refine Ev.congr (fun k => by rw [laws_FnExactParseCups.f]) ?_
  by_cases hl : (s.size : Int) > 1048576
  · exact Ev.pos hl (Ev.now _)
  refine Ev.neg hl ?_
  obtain ⟨w, hS, hI, hw⟩ := both_ParseCups s (by omega)
  refine Ev.bind hS (Ev.bind hI (Ev.bind (eqCups_ev w.1 w.1 w.2.1 w.2.1 hw rfl rfl) (Ev.pos rfl ?_)))
  refine Ev.step (fun k => by rw [laws_FnExactParseCups.j0]) ?_
  have held : Ev (fun k => laws_heldCups.f k (upFrom 1 w.1.length) w.2.1 1) (1 + w.1.length) := Ev.bind (heldIntS_ev w.1.length 1 hw (by omega) (by omega)) (Ev.neg (by omega) (Ev.now _))
  refine Ev.neg (by simp) (Ev.bind (a := ((1 + w.1.length, upFrom 1 w.1.length) : Int × List Int)) (Ev.bind (markIntS_ev w.1 1 hw (by omega) (by omega)) (Ev.now _)) ?_)
  refine Ev.bind held (Ev.neg (by omega) (Ev.pos rfl (Ev.bind hI (Ev.bind (eqCups_ev w.1 w.1 w.2.1 w.2.1 hw rfl rfl) (Ev.pos rfl ?_)))))
  refine Ev.step (fun k => by rw [laws_FnExactParseCups.j1]) ?_
  exact Ev.neg (by simp) (Ev.bind held (Ev.neg (by omega) (Ev.pos rfl (Ev.now _))))

end Go.Proofs.YteneeeepocefaaaDoor.Pure
