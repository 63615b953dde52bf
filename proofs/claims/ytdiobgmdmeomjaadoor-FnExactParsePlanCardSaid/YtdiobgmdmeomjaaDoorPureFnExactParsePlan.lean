/- What is proved here: the pure statement of the law FnExactParsePlan: for every input the law, as the print tells it, answers true. No condition. (The row that follows from it says it of the Go program.) -/
import Derived.Test.YtdiobgmdmeomjaaDoorPFnExactParsePlanx3
import Derived.Test.YtdiobgmdmeomjaaDoorBase
import Derived.Lib.ItoaLen
import Derived.Shelf.Unicode.DecodeLastEight
set_option linter.unusedSimpArgs false
set_option linter.unusedVariables false
namespace Go.Proofs.YtdiobgmdmeomjaaDoor.Pure
open Go.RowKit Go.Proofs.YtdiobgmdmeomjaaDoor.PFnExactParsePlan Go.Proofs.YtdiobgmdmeomjaaDoorW.PrintWords Go.Proofs.YtdiobgmdmeomjaaDoorW.PrintLast Go.Proofs.YtdiobgmdmeomjaaDoor.Base

theorem l1In_eq (a b c : Int) : spec_l1In.f a b c = some (decide (b ≤ a ∧ a ≤ c)) := by
  unfold spec_l1In.f
  by_cases h : a ≥ b
  · rw [if_pos h]; simp [h]
  · rw [if_neg h]; simp [h]
theorem l1All_ev (l : List Int) (a b : Int) (hl : l.length ≤ 1048576) : Ev (fun k => spec_l1All.f k l a b) (l.all fun x => decide (a ≤ x ∧ x ≤ b)) := by
  have key := range (n := l.length) (fun (_ : Unit) i k => spec_l1All.l0 k a b l (l.length : Int) i) (fun i _ => (l.drop i).all fun x => decide (a ≤ x ∧ x ≤ b)) (fun _ _ => True) (by
    intro s _
    refine Ev.step (fun k => by rw [spec_l1All.l0]) ?_
    rw [List.drop_length]
    exact Ev.neg (by omega) (Ev.now _)) (by
    intro i s hi _ ih
    refine Ev.step (fun k => by rw [spec_l1All.l0]) ?_
    refine Ev.pos (by omega) (Ev.pos (by omega) (Ev.pos (by omega) ?_))
    rw [l1In_eq, drop_rd hi, List.all_cons]
    refine Ev.some_ ?_
    cases h : decide (a ≤ rd l (i : Int) ∧ rd l (i : Int) ≤ b) with
    | true =>
      refine Ev.pos rfl ?_
      rw [wrap_succ hi (by omega), Bool.true_and]
      exact ih () trivial
    | false => exact Ev.neg (by decide) (Ev.now _))
  exact key 0 () (by omega) trivial
def planText (l : List Int) : Bool := decide ((1 : Int) ≤ (l.length : Int) ∧ (l.length : Int) ≤ 9) && allIn l 0 3
theorem planText_len {l : List Int} (h : planText l = true) : 1 ≤ l.length ∧ l.length ≤ 9 ∧ allIn l 0 3 = true := by
  unfold planText at h
  rw [Bool.and_eq_true] at h
  have := of_decide_eq_true h.1
  exact ⟨by omega, by omega, h.2⟩
theorem ldAny_ev (l : List Int) (hl : l.length ≤ 1048576) : Ev (fun k => spec_ldAny.f k l) (planText l) := by
  refine Ev.congr (fun k => by rw [spec_ldAny.f, l1In_eq]) ?_
  refine Ev.some_ ?_
  unfold planText
  by_cases h : (1 : Int) ≤ (l.length : Int) ∧ (l.length : Int) ≤ 9
  · refine Ev.pos (decide_eq_true h) ?_
    rw [decide_eq_true h, Bool.true_and]
    exact Ev.bind (l1All_ev l 0 3 hl) (Ev.now _)
  · refine Ev.neg (by simpa using h) ?_
    rw [decide_eq_false h, Bool.false_and]
    exact Ev.now _
theorem strOfNums_one {n : Nat} (h : n ≤ 9) : strOfNums [(wrap64 (48 + (n : Int))) % 256] = ⟨#[UInt8.ofNat (48 + n)]⟩ := by
  rw [wrap_id (by omega) (by omega), Int.emod_eq_of_lt (by omega) (by omega)]
  have : ((48 : Int) + (n : Int)).toNat = 48 + n := by omega
  simp [strOfNums, this]
theorem decDigits_step {u : Nat} (h : ¬ u < 10) : Lib.decDigits u = Lib.decDigits (u / 10) ++ [UInt8.ofNat (48 + u % 10)] := by
  rw [Lib.decDigits, dif_neg h]
theorem mk_append (a b : List UInt8) : (⟨a.toArray⟩ : ByteArray) ++ ⟨b.toArray⟩ = ⟨(a ++ b).toArray⟩ := by
  apply ByteArray.ext
  simp
theorem itoa_short (u : Nat) (h : u ≤ 1000000000000) : (Lib.decDigits u).length ≤ 21 := by
  have := Lib.itoa_length_le (u : Int) (by omega) (by omega)
  rwa [Lib.itoa_nonneg] at this
theorem l1Num_ev (u : Nat) : u ≤ 1000000000000 → Ev (fun k => spec_l1Num.f k (u : Int)) ⟨(Lib.itoa (u : Int)).toArray⟩ := by
  induction u using Nat.strongRecOn with
  | _ u ih =>
    intro hu
    rw [Lib.itoa_nonneg]
    refine Ev.step (fun k => by rw [spec_l1Num.f]) ?_
    by_cases h : u < 10
    · refine Ev.pos (by omega) ?_
      rw [strOfNums_one (by omega), Lib.decDigits_one h]
      exact Ev.now _
    · refine Ev.neg (by omega) ?_
      rw [Int.tdiv_eq_ediv_of_nonneg (by omega), Int.tmod_eq_emod_of_nonneg (by omega), show (u : Int) / 10 = ((u / 10 : Nat) : Int) from by omega, show (u : Int) % 10 = ((u % 10 : Nat) : Int) from by omega, wrap_id (x := ((u / 10 : Nat) : Int)) (by omega) (by omega)]
      refine Ev.bind (ih (u / 10) (by omega) (by omega)) (Ev.some_ ?_)
      have hl := itoa_short (u / 10) (by omega)
      rw [strOfNums_one (n := u % 10) (by omega), Lib.itoa_nonneg]
      refine Ev.pos ?_ ?_
      · show (Lib.decDigits (u / 10)).toArray.size + 1 ≤ _
        simp only [List.size_toArray]
        omega
      · rw [decDigits_step h, ← mk_append]
        exact Ev.now _
theorem flat_length (l : List (List UInt8)) (B : Nat) (h : ∀ x ∈ l, x.length ≤ B) : l.flatten.length ≤ B * l.length := by
  induction l with
  | nil => simp
  | cons x t ih =>
    have h1 := h x List.mem_cons_self
    have h2 := ih (fun y hy => h y (List.mem_cons_of_mem _ hy))
    rw [List.flatten_cons, List.length_append, List.length_cons, Nat.mul_add]
    omega
theorem ldText_ev (l : List Int) (hl : l.length ≤ 1000) (hb : allIn l 0 1000000000 = true) : Ev (fun k => spec_ldText.f k l) ⟨((l.map Lib.itoa).flatten).toArray⟩ := by
  have hx : ∀ i : Nat, i < l.length → Lib.itoa (rd l (i : Int)) = Lib.decDigits (rd l (i : Int)).toNat ∧ (Lib.itoa (rd l (i : Int))).length ≤ 21 := by
    intro i hi
    have := allIn_rd hb hi
    obtain ⟨u, hu⟩ : ∃ u : Nat, rd l (i : Int) = (u : Int) := ⟨(rd l (i : Int)).toNat, by omega⟩
    rw [hu, Lib.itoa_nonneg, Int.toNat_natCast]
    exact ⟨rfl, itoa_short u (by omega)⟩
  have key := range (n := l.length) (fun (s : List UInt8) i k => spec_ldText.l0 k ⟨s.toArray⟩ l (l.length : Int) i) (fun _ _ => (⟨((l.map Lib.itoa).flatten).toArray⟩ : ByteArray)) (fun i s => s = ((l.take i).map Lib.itoa).flatten ∧ s.length ≤ 21 * i) (by
    intro s ⟨hs, _⟩
    refine Ev.step (fun k => by rw [spec_ldText.l0]) ?_
    rw [hs, List.take_length]
    exact Ev.neg (by omega) (Ev.now _)) (by
    intro i s hi ⟨hs, hsl⟩ ih
    refine Ev.step (fun k => by rw [spec_ldText.l0]) ?_
    have h1 := allIn_rd hb hi
    obtain ⟨u, hu⟩ : ∃ u : Nat, rd l (i : Int) = (u : Int) := ⟨(rd l (i : Int)).toNat, by omega⟩
    have h2 := (hx i hi).2
    refine Ev.pos (by omega) (Ev.pos (by omega) (Ev.pos (by omega) ?_))
    rw [hu] at h2 ⊢
    refine Ev.bind (l1Num_ev u (by omega)) (Ev.pos ?_ ?_)
    · show s.toArray.size + (Lib.itoa (u : Int)).toArray.size ≤ _
      simp only [List.size_toArray]
      omega
    · rw [mk_append, wrap_succ hi (by omega)]
      refine ih _ ⟨?_, ?_⟩
      · rw [take_rd hi, List.map_append, List.flatten_append, hs, hu]
        simp
      · rw [List.length_append]
        omega)
  exact key 0 [] (by omega) ⟨rfl, by simp⟩
def mkB (l : List UInt8) : ByteArray := ⟨l.toArray⟩
theorem mkB_list (l : List UInt8) : (mkB l).data.toList = l := by simp [mkB]
theorem mkB_of (s : ByteArray) : mkB s.data.toList = s := by
  cases s
  simp [mkB]
theorem rdB {l : List ByteArray} {i : Nat} (h : i < l.length) : rdOf ByteArray.empty l (i : Int) = l[i] := by
  unfold rdOf
  rw [Int.toNat_natCast, List.getD_eq_getElem?_getD, List.getElem?_eq_getElem h]
  rfl
theorem list_size (s : ByteArray) : s.data.toList.length = s.size := Array.length_toList
theorem bt_list (s : ByteArray) (i : Nat) (h : i < s.data.toList.length) : bt s (i : Int) = ((s.data.toList[i]'h).toNat : Int) := by
  have hs := list_size s
  unfold bt
  rw [dif_pos (by rw [Int.toNat_natCast]; omega)]
  simp [ByteArray.getElem_eq_getElem_data]
theorem ext_list (s : ByteArray) (a b : Nat) : s.extract a b = mkB ((s.data.toList.take b).drop a) := by
  rw [← mkB_of (s.extract a b)]
  congr 1
  simp [List.drop_take, List.extract_eq_take_drop]
theorem pc_step {u : Nat} (h : ¬ u < 10) : Lib.decDigits u = Lib.decDigits (u / 10) ++ [UInt8.ofNat (48 + u % 10)] := by
  rw [Lib.decDigits, dif_neg h]
theorem pc_one {u : Nat} (h : u < 10) : Lib.decDigits u = [UInt8.ofNat (48 + u)] := by
  rw [Lib.decDigits, dif_pos h]
theorem pc_digit {d : Nat} (h : d < 10) : (UInt8.ofNat (48 + d)).toNat = 48 + d := by
  rw [UInt8.toNat_ofNat']
  omega
theorem pc_itoa (u : Nat) : Lib.itoa (u : Int) = Lib.decDigits u := by unfold Lib.itoa; rw [if_neg (by omega)]; simp
def isDig (b : UInt8) : Prop := 48 ≤ b.toNat ∧ b.toNat ≤ 57
instance (b : UInt8) : Decidable (isDig b) := inferInstanceAs (Decidable (_ ∧ _))
def valD (a : Nat) (l : List UInt8) : Nat := l.foldl (fun a b => 10 * a + (b.toNat - 48)) a
theorem pc_val (u : Nat) : valD 0 (Lib.decDigits u) = u := by
  induction u using Nat.strongRecOn with
  | _ u ih =>
    by_cases h : u < 10
    · rw [pc_one h]
      simp only [valD, List.foldl_cons, List.foldl_nil, pc_digit h]
      omega
    · have e := ih (u / 10) (by omega)
      rw [pc_step h]
      unfold valD at e ⊢
      rw [List.foldl_append, e, List.foldl_cons, List.foldl_nil, pc_digit (Nat.mod_lt u (by decide))]
      omega
theorem pc_all (u : Nat) : ∀ b ∈ Lib.decDigits u, isDig b := by
  induction u using Nat.strongRecOn with
  | _ u ih =>
    have one : ∀ d, d < 10 → isDig (UInt8.ofNat (48 + d)) := fun d hd => by unfold isDig; rw [pc_digit hd]; omega
    by_cases h : u < 10
    · rw [pc_one h]
      intro b hb
      rw [List.mem_singleton.1 hb]
      exact one u h
    · rw [pc_step h]
      intro b hb
      rcases List.mem_append.1 hb with hb | hb
      · exact ih (u / 10) (by omega) b hb
      · rw [List.mem_singleton.1 hb]; exact one _ (Nat.mod_lt u (by decide))
theorem pc_ne (u : Nat) : Lib.decDigits u ≠ [] := by
  by_cases h : u < 10
  · rw [pc_one h]; simp
  · rw [pc_step h]; simp
/-- No 0 ahead of other digits. -/
theorem pc_head (u : Nat) : u ≠ 0 → ∃ b t, Lib.decDigits u = b :: t ∧ b.toNat ≠ 48 := by
  induction u using Nat.strongRecOn with
  | _ u ih =>
    intro h0
    by_cases h : u < 10
    · exact ⟨_, [], pc_one h, by rw [pc_digit h]; omega⟩
    · obtain ⟨b, t, e, hb⟩ := ih (u / 10) (by omega) (by omega)
      exact ⟨b, t ++ [UInt8.ofNat (48 + u % 10)], by rw [pc_step h, e]; rfl, hb⟩
theorem pc_zero : Lib.decDigits 0 = [48] := by rw [pc_one (by decide)]; rfl
def noZero (l : List UInt8) : Prop := ∀ b t, l = b :: t → b.toNat = 48 → t = []
theorem pc_noZero (u : Nat) : noZero (Lib.decDigits u) := by
  intro b t e hb
  by_cases h : u = 0
  · rw [h, pc_zero] at e
    injection e with _ e
    exact e.symm
  · obtain ⟨b', t', e', hb'⟩ := pc_head u h
    rw [e'] at e
    injection e with e1 e2
    rw [e1] at hb'
    exact absurd hb hb'
/-- A row of digits with no 0 ahead is its number's own row. -/
theorem pc_conv : ∀ (n : Nat) (l : List UInt8), l.length = n + 1 → (∀ b ∈ l, isDig b) → noZero l → l = Lib.decDigits (valD 0 l)
  | 0, l, hl, hd, _ => by
    obtain ⟨d, rfl⟩ := List.length_eq_one_iff.1 hl
    have h := hd d List.mem_cons_self
    have e : valD 0 [d] = d.toNat - 48 := by simp [valD]
    unfold isDig at h
    rw [e, pc_one (by omega), show 48 + (d.toNat - 48) = d.toNat from by omega]
    simp
  | n + 1, l, hl, hd, hz => by
    obtain ⟨m, d, rfl⟩ : ∃ m d, l = m ++ [d] := ⟨l.dropLast, l.getLast (by intro e; rw [e] at hl; simp at hl), (List.dropLast_concat_getLast _).symm⟩
    have hm : m.length = n + 1 := by rw [List.length_append, List.length_singleton] at hl; omega
    have hzm : noZero m := fun b t e hb => by
      have := hz b (t ++ [d]) (by rw [e]; rfl) hb
      simp at this
    have ih := pc_conv n m hm (fun b hb => hd b (List.mem_append_left _ hb)) hzm
    have h := hd d (by simp)
    unfold isDig at h
    have e : valD 0 (m ++ [d]) = 10 * valD 0 m + (d.toNat - 48) := by simp [valD, List.foldl_append]
    have hpos : valD 0 m ≠ 0 := by
      intro e0
      rw [e0, pc_zero] at ih
      have := hz 48 [d] (by rw [ih]; rfl) rfl
      simp at this
    rw [e, pc_step (by omega), show (10 * valD 0 m + (d.toNat - 48)) / 10 = valD 0 m from by omega, ← ih, show 48 + (10 * valD 0 m + (d.toNat - 48)) % 10 = d.toNat from by omega]
    simp
theorem pc_len : ∀ (k n : Nat), (Lib.decDigits n).length ≤ k + 1 ↔ n < 10 ^ (k + 1)
  | 0, n => by
    by_cases h : n < 10
    · rw [pc_one h]; simp [h]
    · rw [pc_step h, List.length_append, List.length_singleton]
      have := List.length_pos_iff.2 (pc_ne (n / 10))
      simp only [Nat.zero_add, Nat.pow_one]
      omega
  | k + 1, n => by
    have hp : 10 ^ (k + 1 + 1) = 10 * 10 ^ (k + 1) := by rw [Nat.pow_succ, Nat.mul_comm]
    have hp1 : 1 ≤ 10 ^ (k + 1) := Nat.pos_of_ne_zero (by simp)
    by_cases h : n < 10
    · rw [pc_one h]; simp only [List.length_singleton]; omega
    · rw [pc_step h, List.length_append, List.length_singleton]
      have ih := pc_len k (n / 10)
      omega
theorem valD_ge : ∀ (l : List UInt8) (a : Nat), a ≤ valD a l
  | [], a => Nat.le_refl _
  | c :: r, a => by
    have := valD_ge r (10 * a + (c.toNat - 48))
    show a ≤ valD (10 * a + (c.toNat - 48)) r
    omega
theorem parse_digits : ∀ (l : List UInt8) (a : Nat), (∀ b ∈ l, isDig b) → valD a l < 9223372036854775808 → Lib.parseUint10 a l = .ok (valD a l)
  | [], a, _, _ => rfl
  | c :: r, a, h, hv => by
    have hc := h c List.mem_cons_self
    unfold isDig at hc
    have hv' : valD (10 * a + (c.toNat - 48)) r < 9223372036854775808 := hv
    have hge := valD_ge r (10 * a + (c.toNat - 48))
    have ih := parse_digits r (10 * a + (c.toNat - 48)) (fun b hb => h b (List.mem_cons_of_mem _ hb)) hv'
    rw [Lib.parseUint10, if_pos hc, if_neg (by omega), if_neg (by omega), Nat.mul_comm a 10, ih]
    rfl
theorem atoi_digits (n : Nat) (hn : n < 9223372036854775808) : Lib.atoiAll (Lib.decDigits n) = .ok (n : Int) := by
  have hp : Lib.parseMag (Lib.decDigits n) = .ok n := by
    unfold Lib.parseMag
    rw [if_neg (pc_ne n), parse_digits _ 0 (pc_all n) (by rw [pc_val]; exact hn), pc_val]
  have hall := pc_all n
  cases e : Lib.decDigits n with
  | nil => exact absurd e (pc_ne n)
  | cons c r =>
    rw [e] at hp hall
    have hc := hall c List.mem_cons_self
    unfold isDig at hc
    have h45 : ¬ c.toNat = 45 := by omega
    have h43 : ¬ c.toNat = 43 := by omega
    unfold Lib.atoiAll
    simp only [h43, h45, or_self, if_false, not_false_eq_true, true_and, false_and]
    rw [hp]
    dsimp only
    rw [if_neg (by omega)]
theorem numV_digits {s : ByteArray} {n : Nat} (h : s.data.toList = Lib.decDigits n) (hn : n < 9223372036854775808) : numV s = (n : Int) := by
  unfold numV
  rw [h, atoi_digits n hn]
  dsimp only
  rw [if_neg (by omega), if_pos (by rw [pc_itoa, ByteArray.toList_eq, h])]
theorem numV_cases (s : ByteArray) : numV s = -1 ∨ ∃ n : Nat, n < 9223372036854775808 ∧ s.data.toList = Lib.decDigits n ∧ numV s = n := by
  unfold numV
  cases hA : Lib.atoiAll s.data.toList with
  | ok v =>
    dsimp only
    have hr := NumV.range hA
    by_cases h1 : v < 0
    · rw [if_pos h1]; exact .inl rfl
    · rw [if_neg h1]
      by_cases h2 : Lib.itoa v = s.toList
      · rw [if_pos h2]
        obtain ⟨n, rfl⟩ := Int.eq_ofNat_of_zero_le (by omega : 0 ≤ v)
        rw [pc_itoa, ByteArray.toList_eq] at h2
        exact .inr ⟨n, by omega, h2.symm, rfl⟩
      · rw [if_neg h2]; exact .inl rfl
  | «syntax» => exact .inl rfl
  | range => exact .inl rfl
theorem number_eq (s : ByteArray) (h : s.size ≤ 281474976710656) : impl_number.f s = some (numV s) := by
  unfold impl_number.f
  rw [if_pos h]
/-- A number that is not too great has a short text. -/
theorem num_short {s : ByteArray} (h : 0 ≤ numV s) (h' : numV s < 10000000000) : s.data.toList.length ≤ 10 := by
  rcases numV_cases s with e | ⟨n, hn, hs, hv⟩
  · omega
  · rw [hs]
    exact (pc_len 9 n).2 (by simp; omega)
theorem within_eq (a b c : Int) : impl_within.f a b c = some (decide (b ≤ a ∧ a ≤ c)) := by
  unfold impl_within.f
  by_cases h : a ≥ b
  · rw [if_pos h]; simp [h]
  · rw [if_neg h]; simp [h]
theorem areIn_eq (l : List Int) (a b : Int) : impl_areIn.f l a b = some (l.all fun x => decide (a ≤ x ∧ x ≤ b)) := rfl
theorem isPlanText_eq (l : List Int) : impl_isPlanText.f l = some (planText l) := by
  unfold impl_isPlanText.f planText
  rw [within_eq, Option.bind_some]
  by_cases h : (1 : Int) ≤ (l.length : Int) ∧ (l.length : Int) ≤ 9
  · rw [if_pos (decide_eq_true h), decide_eq_true h, Bool.true_and]
    rfl
  · rw [if_neg (by simpa using h), decide_eq_false h, Bool.false_and]
theorem eqIntS_ev (l m : List Int) (hl : l.length ≤ 1048576) (h : l = m) : Ev (fun k => laws_eqIntS.f k l m) true := by
  subst h
  have key := range (n := l.length) (fun (_ : Unit) i k => laws_eqIntS.l0 k l l i) (fun _ _ => true) (fun _ _ => True) (by
    intro s _
    refine Ev.step (fun k => by rw [laws_eqIntS.l0]) ?_
    exact Ev.neg (by omega) (Ev.now _)) (by
    intro i s hi _ ih
    refine Ev.step (fun k => by rw [laws_eqIntS.l0]) ?_
    refine Ev.pos (by omega) (Ev.pos (by omega) (Ev.pos (by omega) (Ev.pos rfl ?_)))
    rw [wrap_succ hi (by omega)]
    exact ih s trivial)
  exact Ev.pos rfl (key 0 () (by omega) trivial)
theorem markIntS_ev (l : List Int) (a : Int) (hl : l.length ≤ 1048576) (ha : 0 ≤ a) (ha2 : a ≤ 1099511627776) : Ev (fun k => laws_markIntS.f k l a) (a + l.length, upFrom a l.length) := by
  have key := range (n := l.length) (fun (s : List Int × Int) i k => laws_markIntS.l0 k s.1 s.2 i) (fun _ _ => (a + l.length, upFrom a l.length)) (fun i s => s.1.length = l.length ∧ s.1.take i = upFrom a i ∧ s.2 = a + i) (by
    intro s ⟨h1, h2, h3⟩
    refine Ev.step (fun k => by rw [laws_markIntS.l0]) ?_
    refine Ev.neg (by omega) ?_
    rw [List.take_of_length_le (by omega)] at h2
    rw [h2, h3]
    exact Ev.now _) (by
    intro i s hi ⟨h1, h2, h3⟩ ih
    refine Ev.step (fun k => by rw [laws_markIntS.l0]) ?_
    refine Ev.pos (by omega) (Ev.pos (by omega) ?_)
    rw [wrap_succ hi (by omega), Int.toNat_natCast, wrap_id (by omega) (by omega)]
    refine ih (s.1.set i s.2, s.2 + 1) ⟨by simpa using h1, ?_, by simp only; omega⟩
    have hs : i < s.1.length := by omega
    simp only
    rw [upFrom_snoc, ← h2, List.take_succ_eq_append_getElem (by simpa using hs), List.take_set_of_le (Nat.le_refl _)]
    simp [h3])
  exact key 0 (l, a) (by omega) ⟨rfl, by simp [upFrom], by simp⟩
theorem heldIntS_ev (n : Nat) (a : Int) (hl : n ≤ 1048576) (ha : 0 ≤ a) (ha2 : a ≤ 1099511627776) : Ev (fun k => laws_heldIntS.f k (upFrom a n) a) (a + n) := by
  have hlen := upFrom_length a n
  have key := range (n := n) (fun (s : Int) i k => laws_heldIntS.l0 k (upFrom a n) s i) (fun _ _ => a + n) (fun i s => s = a + i) (by
    intro s hs
    refine Ev.step (fun k => by rw [laws_heldIntS.l0]) ?_
    rw [hs]
    exact Ev.neg (by omega) (Ev.now _)) (by
    intro i s hi hs ih
    refine Ev.step (fun k => by rw [laws_heldIntS.l0]) ?_
    refine Ev.pos (by omega) (Ev.pos (by omega) (Ev.pos ?_ ?_))
    · rw [rd_get (by omega), upFrom_get, hs]
    · rw [wrap_succ hi (by omega), wrap_id (by omega) (by omega)]
      exact ih _ (by omega))
  exact key 0 a (by omega) (by simp)
theorem ext0 (s : ByteArray) (d : Nat) : (s.extract 0 d).data.toList = s.data.toList.take d := by rw [ext_list, mkB_list, List.drop_zero]
theorem ext1 (s : ByteArray) (d : Nat) : (s.extract d s.size).data.toList = s.data.toList.drop d := by
  have hL := list_size s
  rw [ext_list, mkB_list, List.take_of_length_le (by omega)]
/-- A text in n + 1 pieces. -/
def expl : Nat → ByteArray → List ByteArray
  | 0, s => [s]
  | n + 1, s => s.extract 0 (Lib.decodeGo s).2 :: expl n (s.extract (Lib.decodeGo s).2 s.size)
theorem expl_length : ∀ (n : Nat) (s : ByteArray), (expl n s).length = n + 1
  | 0, _ => rfl
  | n + 1, s => by rw [expl, List.length_cons, expl_length n]
theorem expl_flat : ∀ (n : Nat) (s : ByteArray), ((expl n s).map fun p => p.data.toList).flatten = s.data.toList
  | 0, s => by simp [expl]
  | n + 1, s => by rw [expl, List.map_cons, List.flatten_cons, expl_flat n, ext0, ext1, List.take_append_drop]
theorem expl_size : ∀ (n : Nat) (s : ByteArray), ∀ p ∈ expl n s, p.size ≤ s.size
  | 0, s, p, h => by rw [List.mem_singleton.1 h]; exact Nat.le_refl _
  | n + 1, s, p, h => by
    have hL := list_size s
    rw [expl] at h
    rcases List.mem_cons.1 h with rfl | h
    · rw [← list_size, ext0, List.length_take]; omega
    · have := expl_size n _ p h
      rw [← list_size (s.extract _ _), ext1, List.length_drop] at this
      omega
theorem expl_ascii : ∀ (n : Nat) (s : ByteArray), s.size = n + 1 → (∀ b ∈ s.data.toList, b.toNat < 128) → expl n s = s.data.toList.map fun b => mkB [b]
  | 0, s, hs, _ => by
    have hL := list_size s
    obtain ⟨b, e⟩ := List.length_eq_one_iff.1 (hL.trans hs)
    rw [expl, e, List.map_cons, List.map_nil, ← e, mkB_of]
  | n + 1, s, hs, ha => by
    have hL := list_size s
    cases e : s.data.toList with
    | nil => rw [e] at hL; simp at hL; omega
    | cons b t =>
      have hb : (s[0]'(by omega)).toNat < 128 := by
        have := ha b (by rw [e]; exact List.mem_cons_self)
        have e0 : s[0]'(by omega) = b := by
          have h1 : s.data.toList[0]'(by omega) = b := by simp only [e, List.getElem_cons_zero]
          rw [← h1]
          simp [ByteArray.getElem_eq_getElem_data]
        rw [e0]
        exact this
      have hd : (Lib.decodeGo s).2 = 1 := by
        unfold Lib.decodeGo
        rw [if_neg (by omega), decode_ascii s 0 (by omega) hb]
      have h1 : (s.extract 1 s.size).data.toList = t := by rw [ext1, e]; rfl
      rw [expl, hd, expl_ascii n _ (by rw [← list_size, h1]; rw [e] at hL; simp at hL; omega) (fun c hc => ha c (by rw [e]; rw [h1] at hc; exact List.mem_cons_of_mem _ hc)), h1, List.map_cons, ext_list, e]
      rfl
theorem explode_ev (s : ByteArray) (hs : s.size ≤ 1048576) : Ev (fun k => strings_explode.f k s (-1)) (if Lib.runeCount s = 0 then [] else expl (Lib.runeCount s - 1) s) := by
  have hle := Lib.runeCount_le s
  refine Ev.bind (Ev.const (show utf8_RuneCountInString.f s = some ((Lib.runeCount s : Nat) : Int) from if_pos (by omega))) ?_
  refine Ev.pos (by decide) (Ev.step (fun k => by rw [strings_explode.j0]) (Ev.pos rfl (Ev.step (fun k => by rw [strings_explode.j1]) ?_)))
  generalize Lib.runeCount s = rc at hle ⊢
  refine Ev.pos (by omega) (Ev.pos (by omega) ?_)
  rw [Int.toNat_natCast]
  by_cases h0 : rc = 0
  · rw [if_pos h0, h0]
    refine Ev.step (fun k => by rw [strings_explode.l0]) ?_
    rw [wrap_id (by decide) (by decide)]
    exact Ev.neg (by decide) (Ev.neg (by decide) (Ev.now _))
  · rw [if_neg h0]
    obtain ⟨n, rfl⟩ : ∃ n, rc = n + 1 := ⟨rc - 1, by omega⟩
    have hw : wrap64 (((n + 1 : Nat) : Int) - 1) = (n : Int) := by rw [wrap_id (by omega) (by omega)]; omega
    have key := range (n := n) (fun (x : ByteArray × List ByteArray) i k => strings_explode.l0 k x.1 ((n + 1 : Nat) : Int) x.2 i) (fun i x => x.2.take i ++ expl (n - i) x.1) (fun i x => x.2.length = n + 1) (by
      rintro ⟨r, a⟩ ha
      dsimp only at ha ⊢
      refine Ev.step (fun k => by rw [strings_explode.l0]) ?_
      rw [hw, Nat.sub_self, Int.toNat_natCast]
      refine Ev.neg (by omega) (Ev.pos (by omega) (Ev.pos (by omega) (Ev.pos (by omega) ?_)))
      have e : a.set n r = a.take n ++ expl 0 r := by
        have h1 : a.set n r = (a.set n r).take (n + 1) := by rw [List.take_of_length_le (by rw [List.length_set]; omega)]
        rw [h1, List.take_succ_eq_append_getElem (by rw [List.length_set]; omega), List.take_set_of_le (Nat.le_refl _), List.getElem_set_self]
        rfl
      rw [e]
      exact Ev.now _) (by
      rintro i ⟨r, a⟩ hi ha ih
      dsimp only at ha ih ⊢
      refine Ev.step (fun k => by rw [strings_explode.l0]) ?_
      have hd := Lib.decodeGo_le_size r
      rw [hw]
      refine Ev.pos (by omega) (Ev.bind (Ev.const (show utf8_DecodeRuneInString.f r = some (((Lib.decodeGo r).1 : Int), ((Lib.decodeGo r).2 : Int)) from rfl)) ?_)
      dsimp only
      rw [Int.toNat_natCast, Int.toNat_natCast, wrap_succ hi (by omega)]
      refine Ev.pos (by omega) (Ev.pos (by omega) (Ev.pos (by omega) (Ev.pos (by omega) ?_)))
      have h3 := ih (r.extract (Lib.decodeGo r).2 r.size, a.set i (r.extract 0 (Lib.decodeGo r).2)) (by rw [List.length_set]; exact ha)
      dsimp only at h3
      rw [List.take_succ_eq_append_getElem (by rw [List.length_set]; omega), List.take_set_of_le (Nat.le_refl _), List.getElem_set_self, List.append_assoc, List.singleton_append] at h3
      rw [show n - i = (n - (i + 1)) + 1 from by omega]
      exact h3)
    have := key 0 (s, List.replicate (n + 1) ⟨#[]⟩) (Nat.zero_le _) (by simp)
    rw [List.take_zero, List.nil_append] at this
    exact this
theorem splitE_ev (s : ByteArray) (hs : s.size ≤ 1048576) : Ev (fun k => strings_Split.f k s (⟨#[]⟩ : ByteArray)) (if Lib.runeCount s = 0 then [] else expl (Lib.runeCount s - 1) s) := by
  refine Ev.bind ?_ (Ev.now _)
  exact Ev.pos rfl (Ev.pos (by decide) (explode_ev s hs))
def pieces (s : ByteArray) : List ByteArray := if Lib.runeCount s = 0 then [] else expl (Lib.runeCount s - 1) s
def dB (b : UInt8) : Int := (b.toNat : Int) - 48
def asPlan (P : List Int) : List Int × Bool := if planText P then (P, true) else ([], false)
theorem iPlan_ev (s : ByteArray) (hs : s.size ≤ 1048576) : Ev (fun k => impl_ParsePlan.f k s) (asPlan ((pieces s).map numV)) := by
  have hle := Lib.runeCount_le s
  have hl : (pieces s).length ≤ 1048576 := by
    unfold pieces
    split
    · simp
    · rw [expl_length]; omega
  have hmem : ∀ p ∈ pieces s, p.size ≤ 281474976710656 := by
    unfold pieces
    split
    · intro p hp; cases hp
    · intro p hp; have := expl_size _ s p hp; omega
  refine Ev.bind (splitE_ev s hs) ?_
  change Ev (fun k => impl_ParsePlan.l0 k [] (pieces s) ((pieces s).length : Int) 0) _
  generalize pieces s = L at hl hmem ⊢
  have key := range (n := L.length) (fun (x : List Int) i k => impl_ParsePlan.l0 k x L (L.length : Int) i) (fun _ _ => asPlan (L.map numV)) (fun i x => x = (L.take i).map numV) (by
    intro x hx
    refine Ev.step (fun k => by rw [impl_ParsePlan.l0]) ?_
    rw [hx, List.take_length, isPlanText_eq]
    refine Ev.neg (by omega) (Ev.some_ ?_)
    unfold asPlan
    cases planText (L.map numV) with
    | true => exact Ev.pos rfl (Ev.now _)
    | false => exact Ev.neg (by decide) (Ev.now _)) (by
    intro i x hi hx ih
    refine Ev.step (fun k => by rw [impl_ParsePlan.l0]) ?_
    have hxl : x.length ≤ i := by rw [hx, List.length_map, List.length_take]; omega
    refine Ev.pos (by omega) (Ev.pos (by omega) (Ev.pos (by omega) ?_))
    rw [rdB hi, number_eq _ (hmem _ (List.getElem_mem hi))]
    refine Ev.some_ (Ev.pos (by omega) ?_)
    rw [wrap_succ hi (by omega)]
    exact ih _ (by rw [hx, List.take_succ_eq_append_getElem hi, List.map_append]; rfl))
  exact key 0 [] (Nat.zero_le _) rfl
/-- The text of a plan: at most nine digits below 4. -/
def planS (l : List UInt8) : Prop := 1 ≤ l.length ∧ l.length ≤ 9 ∧ ∀ b ∈ l, 48 ≤ b.toNat ∧ b.toNat ≤ 51
theorem planText_iff {P : List Int} : planText P = true ↔ 1 ≤ P.length ∧ P.length ≤ 9 ∧ ∀ x ∈ P, 0 ≤ x ∧ x ≤ 3 := by
  constructor
  · intro h
    obtain ⟨h1, h2, h3⟩ := planText_len h
    exact ⟨h1, h2, allIn_iff.1 h3⟩
  · rintro ⟨h1, h2, h3⟩
    unfold planText
    rw [decide_eq_true (by omega), Bool.true_and]
    exact allIn_iff.2 h3
theorem asPlan_no {P : List Int} (h : ¬ planText P = true) : asPlan P = ([], false) := by unfold asPlan; rw [if_neg h]
theorem planS_text {l : List UInt8} (h : planS l) : planText (l.map dB) = true := by
  refine planText_iff.2 ⟨by rw [List.length_map]; exact h.1, by rw [List.length_map]; exact h.2.1, fun x hx => ?_⟩
  obtain ⟨b, hb, rfl⟩ := List.mem_map.1 hx
  have := h.2.2 b hb
  unfold dB
  omega
theorem digit_list {b : UInt8} (h : 48 ≤ b.toNat ∧ b.toNat ≤ 57) : Lib.decDigits (b.toNat - 48) = [b] := by
  rw [pc_one (by omega), show 48 + (b.toNat - 48) = b.toNat from by omega]
  simp
theorem iPlan_eq (s : ByteArray) : asPlan ((pieces s).map numV) = if planText (s.data.toList.map dB) = true then (s.data.toList.map dB, true) else ([], false) := by
  have hL := list_size s
  by_cases hp : planS s.data.toList
  · rw [if_pos (planS_text hp)]
    have hasc : ∀ b ∈ s.data.toList, b.toNat < 128 := fun b hb => by have := hp.2.2 b hb; omega
    have hrc : Lib.runeCount s = s.size := Lib.runeCount_ascii s (fun j hj => by
      refine hasc _ ?_
      have e0 : s[j]'hj = s.data.toList[j]'(by omega) := by simp [ByteArray.getElem_eq_getElem_data]
      rw [e0]
      exact List.getElem_mem _)
    have hpos := hp.1
    have e : (pieces s).map numV = s.data.toList.map dB := by
      unfold pieces
      rw [hrc, if_neg (by omega), expl_ascii _ s (by omega) hasc, List.map_map]
      refine List.map_congr_left fun b hb => ?_
      have h48 := hp.2.2 b hb
      show numV (mkB [b]) = dB b
      rw [numV_digits (n := b.toNat - 48) (by rw [mkB_list, digit_list (by omega)]) (by omega)]
      unfold dB
      omega
    rw [e]
    unfold asPlan
    rw [if_pos (planS_text hp)]
  · have no1 : ¬ planText (s.data.toList.map dB) = true := fun h => by
      obtain ⟨h1, h2, h3⟩ := planText_iff.1 h
      rw [List.length_map] at h1 h2
      refine hp ⟨h1, h2, fun b hb => ?_⟩
      have := h3 (dB b) (List.mem_map_of_mem hb)
      unfold dB at this
      omega
    rw [if_neg no1]
    refine asPlan_no fun h => hp ?_
    obtain ⟨h1, h2, h3⟩ := planText_iff.1 h
    rw [List.length_map] at h1 h2
    have hflat : ((pieces s).map fun p => p.data.toList).flatten = s.data.toList := by
      unfold pieces at h1 ⊢
      split at h1
      · simp at h1
      · rename_i hne
        rw [if_neg hne]
        exact expl_flat _ s
    have hone : ∀ p ∈ pieces s, ∃ b : UInt8, p.data.toList = [b] ∧ 48 ≤ b.toNat ∧ b.toNat ≤ 51 := fun p hp' => by
      have hv := h3 (numV p) (List.mem_map_of_mem hp')
      rcases numV_cases p with e | ⟨n, _, e, hn⟩
      · omega
      · refine ⟨UInt8.ofNat (48 + n), by rw [e, pc_one (by omega)], ?_⟩
        rw [pc_digit (by omega)]
        omega
    have key : ∀ L : List ByteArray, (∀ p ∈ L, ∃ b : UInt8, p.data.toList = [b] ∧ 48 ≤ b.toNat ∧ b.toNat ≤ 51) → ((L.map fun p => p.data.toList).flatten).length = L.length ∧ ∀ b ∈ (L.map fun p => p.data.toList).flatten, 48 ≤ b.toNat ∧ b.toNat ≤ 51 := by
      intro L
      induction L with
      | nil => intro _; exact ⟨rfl, fun b hb => by cases hb⟩
      | cons p t ih =>
        intro hall
        obtain ⟨c, e, hc⟩ := hall p List.mem_cons_self
        have h4 := ih (fun q hq => hall q (List.mem_cons_of_mem _ hq))
        rw [List.map_cons, List.flatten_cons, e, List.singleton_append]
        refine ⟨by rw [List.length_cons, List.length_cons, h4.1], fun b hb => ?_⟩
        rcases List.mem_cons.1 hb with rfl | hb
        · exact hc
        · exact h4.2 b hb
    have hk := key (pieces s) hone
    rw [hflat] at hk
    exact ⟨by omega, by omega, hk.2⟩
theorem sPlan_j1 (s : ByteArray) (l : List UInt8) (hl : l.length ≤ 10) (hs : s.data.toList.take 10 = l) : Ev (fun k => spec_ParsePlan.j1 k s (l.map dB)) (if planText (s.data.toList.map dB) = true then (s.data.toList.map dB, true) else ([], false)) := by
  refine Ev.step (fun k => by rw [spec_ParsePlan.j1]) ?_
  refine Ev.bind (ldAny_ev _ (by rw [List.length_map]; omega)) ?_
  by_cases h : planText (l.map dB) = true
  · rw [h]
    obtain ⟨h1, h2, h3⟩ := planText_iff.1 h
    rw [List.length_map] at h1 h2
    have hfull : s.data.toList = l := by
      rw [← hs, List.length_take] at h2
      rw [← hs, List.take_of_length_le (by omega)]
    have hall : allIn (l.map dB) 0 1000000000 = true := allIn_iff.2 fun x hx => by have := h3 x hx; omega
    have e : ((l.map dB).map Lib.itoa).flatten = l := by
      have hb : ∀ b ∈ l, 48 ≤ b.toNat ∧ b.toNat ≤ 51 := fun b hb => by
        have := h3 (dB b) (List.mem_map_of_mem hb)
        unfold dB at this
        omega
      clear hfull hs hall h h1 h2 h3 hl
      induction l with
      | nil => rfl
      | cons b t ih =>
        have h48 := hb b List.mem_cons_self
        rw [List.map_cons, List.map_cons, List.flatten_cons, ih (fun c hc => hb c (List.mem_cons_of_mem _ hc))]
        have : dB b = ((b.toNat - 48 : Nat) : Int) := by unfold dB; omega
        rw [this, pc_itoa, digit_list (by omega)]
        rfl
    rw [hfull, if_pos h]
    refine Ev.pos rfl (Ev.bind (ldText_ev _ (by rw [List.length_map]; omega) hall) ?_)
    refine Ev.pos ?_ (Ev.now _)
    rw [e, ByteArray.toList_eq, ByteArray.toList_eq, hfull]
  · have no1 : ¬ planText (s.data.toList.map dB) = true := fun h' => by
      obtain ⟨h1, h2, h3⟩ := planText_iff.1 h'
      rw [List.length_map] at h1 h2
      rw [List.take_of_length_le (by omega)] at hs
      rw [← hs] at h
      exact h h'
    rw [if_neg no1, Bool.eq_false_iff.2 h]
    exact Ev.neg (by decide) (Ev.now _)
theorem sPlan_ev (s : ByteArray) (hs : s.size ≤ 1048576) : Ev (fun k => spec_ParsePlan.f k s) (if planText (s.data.toList.map dB) = true then (s.data.toList.map dB, true) else ([], false)) := by
  have hL := list_size s
  have key := range (n := min s.size 10) (fun (x : List Int) i k => spec_ParsePlan.l0 k s x i) (fun _ _ => if planText (s.data.toList.map dB) = true then (s.data.toList.map dB, true) else ([], false)) (fun i x => x = (s.data.toList.take i).map dB) (by
    intro x hx
    refine Ev.step (fun k => by rw [spec_ParsePlan.l0]) ?_
    have ht : s.data.toList.take 10 = s.data.toList.take (min s.size 10) := by
      by_cases h : s.size ≤ 10
      · rw [Nat.min_eq_left h, List.take_of_length_le (by omega), List.take_of_length_le (by omega)]
      · rw [Nat.min_eq_right (by omega)]
    have hj := sPlan_j1 s (s.data.toList.take (min s.size 10)) (by rw [List.length_take]; omega) ht
    rw [hx]
    by_cases h : s.size ≤ 10
    · exact Ev.neg (by omega) hj
    · exact Ev.pos (by omega) (Ev.neg (by omega) hj)) (by
    intro i x hi hx ih
    refine Ev.step (fun k => by rw [spec_ParsePlan.l0]) ?_
    have hi' : i < s.data.toList.length := by omega
    have hxl : x.length ≤ i := by rw [hx, List.length_map, List.length_take]; omega
    have hbr := bt_range s (i : Int)
    have hb := bt_list s i hi'
    refine Ev.pos (by omega) (Ev.pos (by omega) (Ev.pos (by omega) (Ev.pos (by omega) ?_)))
    rw [wrap_succ hi (by omega), wrap_id (x := bt s (i : Int)) (by omega) (by omega), wrap_id (by omega) (by omega)]
    exact ih _ (by rw [hx, List.take_succ_eq_append_getElem hi', List.map_append, List.map_cons, List.map_nil, hb]; rfl))
  exact key 0 [] (Nat.zero_le _) rfl
theorem both_ParsePlan (s : ByteArray) (hs : s.size ≤ 1048576) : ∃ w : List Int × Bool, Ev (fun k => spec_ParsePlan.f k s) w ∧ Ev (fun k => impl_ParsePlan.f k s) w ∧ w.1.length ≤ 1048576 := by
  have hL := list_size s
  have hI := iPlan_ev s hs
  rw [iPlan_eq] at hI
  refine ⟨_, sPlan_ev s hs, hI, ?_⟩
  split
  · simp only [List.length_map]; omega
  · simp
theorem FnExactParsePlan : laws_FnExactParsePlan.Pure := by
  intro s h
  refine Ev.rounds ?_
  refine Ev.congr (fun k => by rw [laws_FnExactParsePlan.f]) ?_
  by_cases hl : (s.size : Int) > 1048576
  · exact Ev.pos hl (Ev.now _)
  refine Ev.neg hl ?_
  obtain ⟨w, hS, hI, hw⟩ := both_ParsePlan s (by omega)
  refine Ev.bind hS (Ev.bind hI (Ev.bind (eqIntS_ev w.1 w.1 hw rfl) (Ev.pos rfl ?_)))
  refine Ev.step (fun k => by rw [laws_FnExactParsePlan.j0]) ?_
  have held := heldIntS_ev w.1.length 1 hw (by omega) (by omega)
  refine Ev.neg (by simp) (Ev.bind (markIntS_ev w.1 1 hw (by omega) (by omega)) ?_)
  refine Ev.bind held (Ev.neg (by omega) (Ev.pos rfl (Ev.bind hI (Ev.bind (eqIntS_ev w.1 w.1 hw rfl) (Ev.pos rfl ?_)))))
  refine Ev.step (fun k => by rw [laws_FnExactParsePlan.j1]) ?_
  exact Ev.neg (by simp) (Ev.bind held (Ev.neg (by omega) (Ev.pos rfl (Ev.now _))))

end Go.Proofs.YtdiobgmdmeomjaaDoor.Pure
