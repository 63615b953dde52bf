/- What is proved here: the pure statement of the law FnRingAgain: for every input the law, as the print tells it, answers true. No condition. (The row that follows from it says it of the Go program.) -/
import Derived.Test.YtffhhhkdnkdlgaaDoorPFnRingAgainx4
import Derived.Test.YtffhhhkdnkdlgaaDoorBase
import Derived.Lib.ItoaLen
set_option linter.unusedSimpArgs false
set_option linter.unusedVariables false
namespace Go.Proofs.YtffhhhkdnkdlgaaDoor.Pure
open Go.RowKit Go.Proofs.YtffhhhkdnkdlgaaDoor.PFnRingAgain Go.Proofs.YtffhhhkdnkdlgaaDoorW.PrintWords Go.Proofs.YtffhhhkdnkdlgaaDoorW.PrintLast Go.Proofs.YtffhhhkdnkdlgaaDoor.Base

theorem within_eq (a b c : Int) : impl_within.f a b c = some (decide (b ≤ a ∧ a ≤ c)) := by
  unfold impl_within.f
  by_cases h : a ≥ b
  · rw [if_pos h]; simp [h]
  · rw [if_neg h]; simp [h]
theorem areIn_eq (l : List Int) (a b : Int) : impl_areIn.f l a b = some (l.all fun x => decide (a ≤ x ∧ x ≤ b)) := rfl
theorem isRing_eq (l : List Int) : impl_IsRing.f l = some (isRing l) := by
  unfold impl_IsRing.f isRing
  rw [within_eq, Option.bind_some]
  by_cases h : (2 : Int) ≤ (l.length : Int) ∧ (l.length : Int) ≤ 10
  · rw [if_pos (decide_eq_true h), decide_eq_true h, Bool.true_and]
    rfl
  · rw [if_neg (by simpa using h), decide_eq_false h, Bool.false_and]
theorem clone_eq (l : List Int) (hl : l.length ≤ 1048576) : slices_Clone_int_int.f l = some l := by
  unfold slices_Clone_int_int.f
  rw [if_pos (by omega)]
theorem size_eq {x : Int} (h1 : -1000000 ≤ x) (h2 : x ≤ 1000000) : impl_size.f x = some (absd x) := by
  unfold impl_size.f
  rw [wrap_id (by omega) (by omega), mx_eq]
  rfl
theorem tmod_succ' {i n : Nat} (hi : i < n) (hn : n ≤ 1048576) : Int.tmod (wrap64 ((i : Int) + 1)) (n : Int) = (((i + 1) % n : Nat) : Int) := by
  rw [wrap_succ hi (by omega)]
  exact (Int.ofNat_tmod _ _).symm
theorem ringStep_ev (l : List Int) (hl : l.length ≤ 1048576) (hb : allIn l 0 1000000 = true) : Ev (fun k => impl_ringStep.f k l) (ringStep l) := by
  have key := range (n := l.length) (fun (s : List Int) i k => impl_ringStep.l0 k l s l (l.length : Int) i) (fun _ _ => ringStep l) (fun i s => s = (List.range i).map (stepAt l)) (by
    intro s hs
    refine Ev.step (fun k => by rw [impl_ringStep.l0]) ?_
    refine Ev.neg (by omega) ?_
    rw [hs]
    exact Ev.now _) (by
    intro i s hi hs ih
    refine Ev.step (fun k => by rw [impl_ringStep.l0]) ?_
    have hsl : s.length = i := by rw [hs]; simp
    have h1 := allIn_rd hb hi
    have hm := Nat.mod_lt (i + 1) (Nat.lt_of_le_of_lt (Nat.zero_le i) hi)
    have h2 := allIn_rd hb hm
    rw [tmod_succ' hi hl]
    refine Ev.pos (by omega) (Ev.pos (by omega) (Ev.pos (by omega) (Ev.neg (by omega) (Ev.pos (by omega) (Ev.pos (by omega) ?_)))))
    rw [wrap_id (x := rd l (i : Int) - _) (by omega) (by omega), size_eq (by omega) (by omega)]
    refine Ev.some_ (Ev.pos (by omega) ?_)
    rw [wrap_succ hi (by omega)]
    refine ih _ ?_
    rw [List.range_succ, List.map_append, hs]
    rfl)
  exact key 0 [] (by omega) rfl
theorem join_length_le (xs : List (List UInt8)) (sep : List UInt8) (B : Nat) (h : ∀ x ∈ xs, x.length ≤ B) : (Lib.join xs sep).length ≤ (B + sep.length) * xs.length := by
  cases xs with
  | nil => simp [Lib.join]
  | cons x t =>
    rw [Lib.join_cons]
    have h1 := h x List.mem_cons_self
    have h2 : (Lib.joinTail sep t).length ≤ (B + sep.length) * t.length := by
      have : ∀ t : List (List UInt8), (∀ y ∈ t, y.length ≤ B) → (Lib.joinTail sep t).length ≤ (B + sep.length) * t.length := by
        intro t
        induction t with
        | nil => intro _; simp [Lib.joinTail]
        | cons y t ih =>
          intro hh
          have a1 := hh y List.mem_cons_self
          have a2 := ih (fun z hz => hh z (List.mem_cons_of_mem _ hz))
          unfold Lib.joinTail at a2 ⊢
          rw [List.map_cons, List.flatten_cons, List.length_append, List.length_append, List.length_cons, Nat.mul_add]
          omega
      exact this t (fun y hy => h y (List.mem_cons_of_mem _ hy))
    rw [List.length_append, List.length_cons, Nat.mul_add]
    omega
theorem joined_ev (l : List Int) (sep : ByteArray) (hl : l.length ≤ 1000) (hs : sep.size ≤ 10) (hb : allIn l (-9223372036854775808) 9223372036854775807 = true) : Ev (fun k => impl_joined.f k l sep) ⟨(Lib.join (l.map Lib.itoa) sep.data.toList).toArray⟩ := by
  have key := range (n := l.length) (fun (s : List ByteArray) i k => impl_joined.l0 k sep s l (l.length : Int) i) (fun _ _ => (⟨(Lib.join (l.map Lib.itoa) sep.data.toList).toArray⟩ : ByteArray)) (fun i s => s = (l.take i).map fun n => (⟨(Lib.itoa n).toArray⟩ : ByteArray)) (by
    intro s hs'
    refine Ev.step (fun k => by rw [impl_joined.l0]) ?_
    rw [List.take_length] at hs'
    refine Ev.neg (by omega) (Ev.bind (a := (⟨(Lib.join (l.map Lib.itoa) sep.data.toList).toArray⟩ : ByteArray)) (Ev.const ?_) (Ev.now _))
    have hm : s.map (·.data.toList) = l.map Lib.itoa := by
      rw [hs', List.map_map]
      exact List.map_congr_left (fun x _ => rfl)
    have hlen := join_length_le (l.map Lib.itoa) sep.data.toList 21 (fun x hx => by
      obtain ⟨n, hn, rfl⟩ := List.mem_map.1 hx
      have := allIn_iff.1 hb n hn
      exact Lib.itoa_length_le n this.1 this.2)
    rw [List.length_map] at hlen
    have hsz : sep.data.toList.length ≤ 10 := by simpa using hs
    have hmul : (21 + sep.data.toList.length) * l.length ≤ 31 * 1000 := Nat.mul_le_mul (by omega) hl
    unfold strings_Join.f
    rw [hm, if_pos (by rw [hs', List.length_map]; omega), if_pos (by omega)]) (by
    intro i s hi hs' ih
    refine Ev.step (fun k => by rw [impl_joined.l0]) ?_
    have h1 := allIn_rd hb hi
    have hsl : s.length = i := by rw [hs', List.length_map, List.length_take]; omega
    refine Ev.pos (by omega) (Ev.pos (by omega) (Ev.pos (by omega) (Ev.bind (a := (⟨(Lib.itoa (rd l (i : Int))).toArray⟩ : ByteArray)) (Ev.const ?_) (Ev.pos (by omega) ?_))))
    · unfold strconv_Itoa.f
      rw [if_pos h1.1, if_pos h1.2]
    · rw [wrap_succ hi (by omega)]
      refine ih _ ?_
      rw [take_rd hi, List.map_append, hs']
      rfl)
  exact key 0 [] (by omega) rfl
theorem digits_step {u : Nat} (h : ¬ u < 10) : Lib.decDigits u = Lib.decDigits (u / 10) ++ [UInt8.ofNat (48 + u % 10)] := by
  rw [Lib.decDigits, dif_neg h]
theorem digits_one {u : Nat} (h : u < 10) : Lib.decDigits u = [UInt8.ofNat (48 + u)] := by
  rw [Lib.decDigits, dif_pos h]
def numOf (l : List UInt8) : Nat := l.foldl (fun a c => a * 10 + (c.toNat - 48)) 0
theorem digit_toNat {d : Nat} (h : d < 10) : (UInt8.ofNat (48 + d)).toNat = 48 + d := by
  rw [UInt8.toNat_ofNat']
  omega
theorem numOf_digits (u : Nat) : numOf (Lib.decDigits u) = u := by
  induction u using Nat.strongRecOn with
  | _ u ih =>
    by_cases h : u < 10
    · rw [digits_one h]
      simp only [numOf, List.foldl_cons, List.foldl_nil, digit_toNat h]
      omega
    · have e := ih (u / 10) (by omega)
      rw [digits_step h]
      unfold numOf at e ⊢
      rw [List.foldl_append, e, List.foldl_cons, List.foldl_nil, digit_toNat (Nat.mod_lt u (by decide))]
      omega
theorem digits_no (u : Nat) : (45 : UInt8) ∉ Lib.decDigits u := by
  induction u using Nat.strongRecOn with
  | _ u ih =>
    have one : ∀ d, d < 10 → (45 : UInt8) ≠ UInt8.ofNat (48 + d) := by
      intro d hd e
      have := congrArg UInt8.toNat e
      rw [digit_toNat hd] at this
      have h45 : (45 : UInt8).toNat = 45 := rfl
      omega
    by_cases h : u < 10
    · rw [digits_one h]
      intro hm
      exact one u h (List.mem_singleton.1 hm)
    · rw [digits_step h]
      intro hm
      rcases List.mem_append.1 hm with hm | hm
      · exact ih (u / 10) (by omega) hm
      · exact one (u % 10) (Nat.mod_lt u (by decide)) (List.mem_singleton.1 hm)
theorem itoa_digits (u : Nat) : Lib.itoa (u : Int) = Lib.decDigits u := by unfold Lib.itoa; rw [if_neg (by omega)]; simp
theorem itoa_no {x : Int} (h : 0 ≤ x) : (45 : UInt8) ∉ Lib.itoa x := by
  obtain ⟨u, rfl⟩ := Int.eq_ofNat_of_zero_le h
  rw [itoa_digits]
  exact digits_no u
theorem itoa_inj {x y : Int} (h : 0 ≤ x) (h' : 0 ≤ y) (e : Lib.itoa x = Lib.itoa y) : x = y := by
  obtain ⟨u, rfl⟩ := Int.eq_ofNat_of_zero_le h
  obtain ⟨v, rfl⟩ := Int.eq_ofNat_of_zero_le h'
  rw [itoa_digits, itoa_digits] at e
  have := congrArg numOf e
  rw [numOf_digits, numOf_digits] at this
  omega
theorem split45 : ∀ a b : List UInt8, (45 : UInt8) ∉ a → (45 : UInt8) ∉ b → ∀ z z', a ++ 45 :: z = b ++ 45 :: z' → a = b ∧ z = z'
  | [], [], _, _, z, z', e => by simpa using e
  | [], y :: b, _, h2, z, z', e => by
    simp only [List.nil_append, List.cons_append, List.cons.injEq] at e
    exact absurd (by rw [← e.1]; exact List.mem_cons_self) h2
  | x :: a, [], h1, _, z, z', e => by
    simp only [List.nil_append, List.cons_append, List.cons.injEq] at e
    exact absurd (by rw [e.1]; exact List.mem_cons_self) h1
  | x :: a, y :: b, h1, h2, z, z', e => by
    simp only [List.cons_append, List.cons.injEq] at e
    have := split45 a b (fun h => h1 (List.mem_cons_of_mem _ h)) (fun h => h2 (List.mem_cons_of_mem _ h)) z z' e.2
    exact ⟨by rw [e.1, this.1], this.2⟩
theorem tail_inj : ∀ (xs ys : List (List UInt8)) (x y : List UInt8), xs.length = ys.length → (∀ z ∈ x :: xs, (45 : UInt8) ∉ z) → (∀ z ∈ y :: ys, (45 : UInt8) ∉ z) → x ++ Lib.joinTail [45] xs = y ++ Lib.joinTail [45] ys → x :: xs = y :: ys
  | [], [], x, y, _, _, _, e => by simpa [Lib.joinTail] using e
  | [], _ :: _, _, _, h, _, _, _ => by simp at h
  | _ :: _, [], _, _, h, _, _, _ => by simp at h
  | x2 :: xs, y2 :: ys, x, y, h, h1, h2, e => by
    have t : ∀ a r, Lib.joinTail [45] (a :: r) = 45 :: (a ++ Lib.joinTail [45] r) := fun a r => by simp [Lib.joinTail]
    rw [t, t] at e
    have := split45 x y (h1 x List.mem_cons_self) (h2 y List.mem_cons_self) _ _ e
    rw [this.1, tail_inj xs ys x2 y2 (by simpa using h) (fun z hz => h1 z (List.mem_cons_of_mem _ hz)) (fun z hz => h2 z (List.mem_cons_of_mem _ hz)) this.2]
theorem map_inj {α β : Type} {f : α → β} : ∀ l m : List α, (∀ x ∈ l, ∀ y ∈ m, f x = f y → x = y) → l.map f = m.map f → l = m
  | [], [], _, _ => rfl
  | [], _ :: _, _, e => by simp at e
  | _ :: _, [], _, e => by simp at e
  | x :: l, y :: m, h, e => by
    simp only [List.map_cons, List.cons.injEq] at e
    rw [h x List.mem_cons_self y List.mem_cons_self e.1, map_inj l m (fun a ha b hb => h a (List.mem_cons_of_mem _ ha) b (List.mem_cons_of_mem _ hb)) e.2]
def keyTo (u : List Int) : ByteArray := ⟨(Lib.join (u.map Lib.itoa) [45]).toArray⟩
theorem keyTo_inj {u v : List Int} {b : Int} (h1 : allIn u 0 b = true) (h2 : allIn v 0 b = true) (hl : u.length = v.length) (e : keyTo u = keyTo v) : u = v := by
  have e : Lib.join (u.map Lib.itoa) [45] = Lib.join (v.map Lib.itoa) [45] := by
    unfold keyTo at e
    injection e with e
    have := congrArg Array.toList e
    simpa using this
  cases u with
  | nil => cases v with
    | nil => rfl
    | cons y v => simp at hl
  | cons x u => cases v with
    | nil => simp at hl
    | cons y v =>
      rw [List.map_cons, List.map_cons, Lib.join_cons, Lib.join_cons] at e
      have no : ∀ w : List Int, allIn w 0 b = true → ∀ z ∈ w.map Lib.itoa, (45 : UInt8) ∉ z := by
        intro w hw z hz
        obtain ⟨n, hn, rfl⟩ := List.mem_map.1 hz
        exact itoa_no (allIn_iff.1 hw n hn).1
      have := tail_inj (u.map Lib.itoa) (v.map Lib.itoa) (Lib.itoa x) (Lib.itoa y) (by simpa using hl) (no (x :: u) h1) (no (y :: v) h2) e
      exact map_inj (f := Lib.itoa) (x :: u) (y :: v) (fun a ha c hc e => itoa_inj (allIn_iff.1 h1 a ha).1 (allIn_iff.1 h2 c hc).1 e) this
theorem posOf_map (f : Nat → ByteArray) (s : ByteArray) : ∀ (n a i : Nat), i < n → (∀ j, j < i → f (a + j) ≠ s) → f (a + i) = s → posOf s ((List.range' a n).map f) = i
  | 0, _, _, h, _, _ => by omega
  | n + 1, a, i, h, h1, h2 => by
    rw [List.range'_succ, List.map_cons]
    unfold posOf
    cases i with
    | zero => rw [if_pos (by simpa using h2)]
    | succ i =>
      rw [if_neg (by simpa using h1 0 (by omega)), posOf_map f s n (a + 1) i (by omega) (fun j hj => by have := h1 (j + 1) (by omega); rwa [show a + (j + 1) = a + 1 + j from by omega] at this) (by rw [show a + 1 + i = a + (i + 1) from by omega]; exact h2)]
section
variable {l : List Int} {m p : Nat}
theorem ringCycle_l0 (hr : isRing l = true) (hc : Cyc (fun n => play n l) m p) (hm : m + p ≤ 10024) : ∀ d n, n + d = m + p → Ev (fun k => impl_ringCycle.l0 k ((List.range n).map (fun i => keyTo (play i l))) ((List.range n).map (fun i => play i l)) (play n l)) ((List.range (m + p)).map (fun i => play i l), (m : Int)) := by
  have hpos := hc.pos
  have hsmall : ∀ n, (play n l).length ≤ 1000 ∧ allIn (play n l) (-9223372036854775808) 9223372036854775807 = true := fun n => by
    have := isRing_len (play_isRing hr n)
    exact ⟨by omega, allIn_mono this.2.2 (by decide) (by decide)⟩
  have hsz : ∀ n, (keyTo (play n l)).size ≤ 140737488355328 := fun n => by
    have h := join_length_le ((play n l).map Lib.itoa) [45] 21 (fun x hx => by
      obtain ⟨y, hy, rfl⟩ := List.mem_map.1 hx
      have := allIn_iff.1 (hsmall n).2 y hy
      exact Lib.itoa_length_le y this.1 this.2)
    rw [List.length_map] at h
    have h2 : (keyTo (play n l)).size = (Lib.join ((play n l).map Lib.itoa) [45]).length := by unfold keyTo; simp [ByteArray.size]
    have h3 : (21 + [(45 : UInt8)].length) * (play n l).length ≤ 22 * 1000 := Nat.mul_le_mul (by simp) (hsmall n).1
    omega
  have hinj : ∀ i j, keyTo (play i l) = keyTo (play j l) → play i l = play j l := fun i j e => keyTo_inj (isRing_len (play_isRing hr i)).2.2 (isRing_len (play_isRing hr j)).2.2 (by simp only [play_length]) e
  intro d
  induction d with
  | zero =>
    intro n hn
    obtain rfl : n = m + p := by omega
    refine Ev.step (fun k => by rw [impl_ringCycle.l0]) ?_
    refine Ev.bind (a := keyTo (play (m + p) l)) (joined_ev _ ⟨#[45]⟩ (hsmall _).1 (by decide) (hsmall _).2) (Ev.pos (hsz _) ?_)
    have hb : play (m + p) l = play m l := hc.back
    refine Ev.pos (List.mem_map.2 ⟨m, List.mem_range.2 (by omega), by rw [hb]⟩) ?_
    rw [List.range_eq_range', posOf_map (fun i => keyTo (play i l)) (keyTo (play (m + p) l)) (m + p) 0 m (by omega) (fun j hj e => hc.apart j m hj (by omega) (by rw [Nat.zero_add] at e; rw [← hb]; exact hinj _ _ e)) (by rw [Nat.zero_add, hb])]
    exact Ev.now _
  | succ d ih =>
    intro n hn
    refine Ev.step (fun k => by rw [impl_ringCycle.l0]) ?_
    refine Ev.bind (a := keyTo (play n l)) (joined_ev _ ⟨#[45]⟩ (hsmall _).1 (by decide) (hsmall _).2) (Ev.pos (hsz _) ?_)
    refine Ev.neg (fun h => ?_) (Ev.pos (by simp; omega) (Ev.bind (ringStep_ev _ (play_ok hr n).1 (play_ok hr n).2) ?_))
    · obtain ⟨i, hi, e⟩ := List.mem_map.1 h
      exact hc.apart i n (List.mem_range.1 hi) (by omega) (hinj _ _ e)
    · have := ih (n + 1) (by omega)
      rw [List.range_succ, List.map_append, List.map_append] at this
      exact this
theorem ringCycle_ev (hr : isRing l = true) (hc : Cyc (fun n => play n l) m p) (hm : m + p ≤ 10024) : Ev (fun k => impl_ringCycle.f k l) ((List.range (m + p)).map (fun i => play i l), (m : Int)) := by
  refine Ev.bind (Ev.const (clone_eq l (ring_ok hr).1)) ?_
  exact ringCycle_l0 hr hc hm (m + p) 0 (by omega)
end
theorem iLead_ev {l : List Int} {m p : Nat} (hr : isRing l = true) (hc : Cyc (fun n => play n l) m p) (hm : m + p ≤ 10024) : Ev (fun k => impl_LeadOfRing.f k l) ((m : Int), true) := by
  refine Ev.bind (Ev.const (isRing_eq l)) ?_
  rw [hr]
  exact Ev.pos rfl (Ev.bind (ringCycle_ev hr hc hm) (Ev.now _))
theorem iLead_no {l : List Int} (hr : isRing l = false) : Ev (fun k => impl_LeadOfRing.f k l) (0, false) := by
  refine Ev.bind (Ev.const (isRing_eq l)) ?_
  rw [hr]
  exact Ev.neg (by decide) (Ev.now _)
theorem l1In_eq (a b c : Int) : spec_l1In.f a b c = some (decide (b ≤ a ∧ a ≤ c)) := by
  unfold spec_l1In.f
  by_cases h : a ≥ b
  · rw [if_pos h]; simp [h]
  · rw [if_neg h]; simp [h]
theorem l1All_ev (l : List Int) (a b : Int) (hl : l.length ≤ 1048576) : Ev (fun k => spec_l1All.f k l a b) (l.all fun x => decide (a ≤ x ∧ x ≤ b)) := by
  have key := range (n := l.length) (fun (_ : Unit) i k => spec_l1All.l0 k a b l (l.length : Int) i) (fun i _ => (l.drop i).all fun x => decide (a ≤ x ∧ x ≤ b)) (fun _ _ => True) (by
    intro s _
    refine Ev.step (fun k => by rw [spec_l1All.l0]) ?_
    rw [List.drop_length]
    exact Ev.neg (by omega) (Ev.now _)) (by
    intro i s hi _ ih
    refine Ev.step (fun k => by rw [spec_l1All.l0]) ?_
    refine Ev.pos (by omega) (Ev.pos (by omega) (Ev.pos (by omega) ?_))
    rw [l1In_eq, drop_rd hi, List.all_cons]
    refine Ev.some_ ?_
    cases h : decide (a ≤ rd l (i : Int) ∧ rd l (i : Int) ≤ b) with
    | true =>
      refine Ev.pos rfl ?_
      rw [wrap_succ hi (by omega), Bool.true_and]
      exact ih () trivial
    | false => exact Ev.neg (by decide) (Ev.now _))
  exact key 0 () (by omega) trivial
theorem riGood_ev (l : List Int) (hl : l.length ≤ 1048576) : Ev (fun k => spec_riGood.f k l) (isRing l) := by
  refine Ev.congr (fun k => by rw [spec_riGood.f, l1In_eq]) ?_
  refine Ev.some_ ?_
  unfold isRing
  by_cases h : (2 : Int) ≤ (l.length : Int) ∧ (l.length : Int) ≤ 10
  · refine Ev.pos (decide_eq_true h) ?_
    rw [decide_eq_true h, Bool.true_and]
    exact Ev.bind (l1All_ev l 0 1000 hl) (Ev.now _)
  · refine Ev.neg (by simpa using h) ?_
    rw [decide_eq_false h, Bool.false_and]
    exact Ev.now _
theorem l1Own_eq (l : List Int) (hl : l.length ≤ 1048576) : spec_l1Own.f l = some l := by
  unfold spec_l1Own.f
  simp only [Option.bind_some, List.nil_append, List.length_nil]
  rw [if_pos (by omega)]
theorem l1Most_eq (a b : Int) : spec_l1Most.f a b = some (max a b) := by
  unfold spec_l1Most.f
  split <;> congr 1 <;> omega
theorem l1Abs_eq {x : Int} (h1 : -1000000 ≤ x) (h2 : x ≤ 1000000) : spec_l1Abs.f x = some (absd x) := by
  unfold spec_l1Abs.f
  rw [wrap_id (by omega) (by omega), l1Most_eq]
  rfl
theorem tmod_succ {i n : Nat} (hi : i < n) (hn : n ≤ 1048576) : Int.tmod (wrap64 ((i : Int) + 1)) (n : Int) = (((i + 1) % n : Nat) : Int) := by
  rw [wrap_succ hi (by omega)]
  exact (Int.ofNat_tmod _ _).symm
theorem riStep_ev (l : List Int) (hl : l.length ≤ 1048576) (hb : allIn l 0 1000000 = true) : Ev (fun k => spec_riStep.f k l) (ringStep l) := by
  have key := range (n := l.length) (fun (s : List Int) i k => spec_riStep.l0 k l s l (l.length : Int) i) (fun _ _ => ringStep l) (fun i s => s = (List.range i).map (stepAt l)) (by
    intro s hs
    refine Ev.step (fun k => by rw [spec_riStep.l0]) ?_
    refine Ev.neg (by omega) ?_
    rw [hs]
    exact Ev.now _) (by
    intro i s hi hs ih
    refine Ev.step (fun k => by rw [spec_riStep.l0]) ?_
    have hsl : s.length = i := by rw [hs]; simp
    have h1 := allIn_rd hb hi
    have hm := Nat.mod_lt (i + 1) (Nat.lt_of_le_of_lt (Nat.zero_le i) hi)
    have h2 := allIn_rd hb hm
    rw [tmod_succ hi hl]
    refine Ev.pos (by omega) (Ev.pos (by omega) (Ev.pos (by omega) (Ev.neg (by omega) (Ev.pos (by omega) (Ev.pos (by omega) ?_)))))
    rw [wrap_id (x := rd l (i : Int) - _) (by omega) (by omega), l1Abs_eq (by omega) (by omega)]
    refine Ev.some_ (Ev.pos (by omega) ?_)
    rw [wrap_succ hi (by omega)]
    refine ih _ ?_
    rw [List.range_succ, List.map_append, hs]
    rfl)
  exact key 0 [] (by omega) rfl
theorem riPlay_l0 (n : Nat) : n ≤ 1000000000000 → ∀ l : List Int, l.length ≤ 1048576 → allIn l 0 1000000 = true → Ev (fun k => spec_riPlay.l0 k (n : Int) l) (play n l) := by
  induction n with
  | zero =>
    intro _ l hl hb
    refine Ev.step (fun k => by rw [spec_riPlay.l0]) ?_
    exact Ev.neg (by omega) (Ev.now _)
  | succ n ih =>
    intro hn l hl hb
    refine Ev.step (fun k => by rw [spec_riPlay.l0]) ?_
    refine Ev.pos (by omega) (Ev.bind (riStep_ev l hl hb) ?_)
    rw [wrap_id (by omega) (by omega), show ((n + 1 : Nat) : Int) - 1 = (n : Int) from by omega, play_succ']
    exact ih (by omega) _ (by rw [ringStep_length]; exact hl) (ringStep_allIn hb)
theorem riPlay_ev (l : List Int) (n : Nat) (hn : n ≤ 1000000000000) (hl : l.length ≤ 1048576) (hb : allIn l 0 1000000 = true) : Ev (fun k => spec_riPlay.f k l (n : Int)) (play n l) := by
  refine Ev.bind (Ev.const (l1Own_eq l hl)) ?_
  exact riPlay_l0 n hn l hl hb
theorem l1Same_ev (l m : List Int) (hl : l.length ≤ 1048576) (h : l.length = m.length) : Ev (fun k => spec_l1Same.f k l m) (decide (l = m)) := by
  have key := range (n := l.length) (fun (_ : Unit) i k => spec_l1Same.l0 k l m (l.length : Int) i) (fun i _ => decide (l.drop i = m.drop i)) (fun _ _ => True) (by
    intro s _
    refine Ev.step (fun k => by rw [spec_l1Same.l0]) ?_
    refine Ev.neg (by omega) ?_
    rw [List.drop_length, h, List.drop_length]
    exact Ev.now _) (by
    intro i s hi _ ih
    refine Ev.step (fun k => by rw [spec_l1Same.l0]) ?_
    refine Ev.pos (by omega) (Ev.pos (by omega) (Ev.pos (by omega) (Ev.pos (by omega) ?_)))
    by_cases e : rd l (i : Int) = rd m (i : Int)
    · refine Ev.pos e ?_
      have : decide (l.drop i = m.drop i) = decide (l.drop (i + 1) = m.drop (i + 1)) := by
        rw [drop_rd hi, drop_rd (l := m) (by omega), e]
        simp
      rw [this, wrap_succ hi (by omega)]
      exact ih () trivial
    · refine Ev.neg e ?_
      have : decide (l.drop i = m.drop i) = false := by
        rw [drop_rd hi, drop_rd (l := m) (by omega)]
        simp [e]
      rw [this]
      exact Ev.now _)
  refine Ev.pos (by omega) ?_
  have := key 0 () (by omega) trivial
  simpa using this
section
variable {l : List Int} {m p : Nat}
theorem riCycle_l2 (hr : isRing l = true) (hc : Cyc (fun n => play n l) m p) (hm : m + p ≤ 10024) : ∀ d q, q + d = p → 1 ≤ q → Ev (fun k => spec_riCycle.l2 k (play m l) (play (m + q) l) (m : Int) (q : Int)) ((m : Int), (p : Int)) := by
  intro d
  induction d with
  | zero =>
    intro q hq h1
    obtain rfl : q = p := by omega
    refine Ev.step (fun k => by rw [spec_riCycle.l2]) ?_
    refine Ev.bind (l1Same_ev _ _ (play_ok hr m).1 (by simp only [play_length])) ?_
    rw [decide_eq_true hc.back.symm]
    exact Ev.pos rfl (Ev.now _)
  | succ d ih =>
    intro q hq h1
    refine Ev.step (fun k => by rw [spec_riCycle.l2]) ?_
    refine Ev.bind (l1Same_ev _ _ (play_ok hr m).1 (by simp only [play_length])) ?_
    rw [decide_eq_false (hc.apart m (m + q) (by omega) (by omega))]
    refine Ev.neg (by decide) (Ev.bind (riStep_ev _ (play_ok hr (m + q)).1 (play_ok hr (m + q)).2) ?_)
    rw [wrap_id (by omega) (by omega)]
    exact ih (q + 1) (by omega) (by omega)
theorem riCycle_l1 (hr : isRing l = true) (hc : Cyc (fun n => play n l) m p) (hm : m + p ≤ 10024) {N : Nat} (hN : 1 ≤ N) (hp : N % p = 0) : ∀ d i, i + d = m → Ev (fun k => spec_riCycle.l1 k (play i l) (play (N + i) l) (i : Int)) ((m : Int), (p : Int)) := by
  intro d
  have hpos := hc.pos
  induction d with
  | zero =>
    intro i hi
    obtain rfl : i = m := by omega
    refine Ev.step (fun k => by rw [spec_riCycle.l1]) ?_
    refine Ev.bind (l1Same_ev _ _ (play_ok hr i).1 (by simp only [play_length])) ?_
    have e := (hc.same (g := ringStep) (fun _ => rfl) (show i < N + i by omega)).2 ⟨Nat.le_refl _, by rw [show N + i - i = N from by omega]; exact hp⟩
    rw [decide_eq_true e]
    refine Ev.pos rfl (Ev.bind (riStep_ev _ (play_ok hr i).1 (play_ok hr i).2) ?_)
    exact riCycle_l2 hr hc hm (p - 1) 1 (by omega) (Nat.le_refl _)
  | succ d ih =>
    intro i hi
    refine Ev.step (fun k => by rw [spec_riCycle.l1]) ?_
    refine Ev.bind (l1Same_ev _ _ (play_ok hr i).1 (by simp only [play_length])) ?_
    have e : play i l ≠ play (N + i) l := fun e => by
      have := ((hc.same (g := ringStep) (fun _ => rfl) (show i < N + i by omega)).1 e).1
      omega
    rw [decide_eq_false e]
    refine Ev.neg (by decide) (Ev.bind (riStep_ev _ (play_ok hr i).1 (play_ok hr i).2) (Ev.bind (riStep_ev _ (play_ok hr (N + i)).1 (play_ok hr (N + i)).2) ?_))
    rw [wrap_id (by omega) (by omega)]
    exact ih (i + 1) (by omega)
theorem riCycle_l0 (hr : isRing l = true) (hc : Cyc (fun n => play n l) m p) (hm : m + p ≤ 10024) {v : Nat} (hv : play v l = play (v + v) l) : ∀ d n, n + d = v → 1 ≤ n → Ev (fun k => spec_riCycle.l0 k l (play n l) (play (n + n) l)) ((m : Int), (p : Int)) := by
  intro d
  induction d with
  | zero =>
    intro n hn h1
    obtain rfl : n = v := by omega
    refine Ev.step (fun k => by rw [spec_riCycle.l0]) ?_
    refine Ev.bind (l1Same_ev _ _ (play_ok hr n).1 (by simp only [play_length])) ?_
    rw [decide_eq_true hv]
    refine Ev.pos rfl (Ev.bind (Ev.const (l1Own_eq l (ring_ok hr).1)) ?_)
    have e := ((hc.same (g := ringStep) (fun _ => rfl) (show n < n + n by omega)).1 hv).2
    rw [show n + n - n = n from by omega] at e
    exact riCycle_l1 hr hc hm (N := n + n) (by omega) (by rw [Nat.add_mod, e]; simp) m 0 (by omega)
  | succ d ih =>
    intro n hn h1
    refine Ev.step (fun k => by rw [spec_riCycle.l0]) ?_
    refine Ev.bind (l1Same_ev _ _ (play_ok hr n).1 (by simp only [play_length])) ?_
    by_cases hv2 : play n l = play (n + n) l
    · rw [decide_eq_true hv2]
      refine Ev.pos rfl (Ev.bind (Ev.const (l1Own_eq l (ring_ok hr).1)) ?_)
      have e := ((hc.same (g := ringStep) (fun _ => rfl) (show n < n + n by omega)).1 hv2).2
      rw [show n + n - n = n from by omega] at e
      exact riCycle_l1 hr hc hm (N := n + n) (by omega) (by rw [Nat.add_mod, e]; simp) m 0 (by omega)
    · rw [decide_eq_false hv2]
      refine Ev.neg (by decide) (Ev.bind (riStep_ev _ (play_ok hr n).1 (play_ok hr n).2) (Ev.bind (riPlay_ev (play (n + n) l) 2 (by omega) (play_ok hr (n + n)).1 (play_ok hr (n + n)).2) ?_))
      rw [← play_add, show n + n + 2 = n + 1 + (n + 1) from by omega]
      exact ih (n + 1) (by omega) (by omega)
theorem riCycle_ev (hr : isRing l = true) (hc : Cyc (fun n => play n l) m p) (hm : m + p ≤ 10024) : Ev (fun k => spec_riCycle.f k l) ((m : Int), (p : Int)) := by
  have hpos := hc.pos
  refine Ev.bind (riStep_ev l (ring_ok hr).1 (ring_ok hr).2) (Ev.bind (riPlay_ev l 2 (by omega) (ring_ok hr).1 (ring_ok hr).2) ?_)
  have h1 : 1 ≤ p * (m + 1) := Nat.mul_pos hpos (by omega)
  have h2 : m + 1 ≤ p * (m + 1) := Nat.le_mul_of_pos_left _ hpos
  have hv : play (p * (m + 1)) l = play (p * (m + 1) + p * (m + 1)) l := (hc.same (g := ringStep) (fun _ => rfl) (show p * (m + 1) < p * (m + 1) + p * (m + 1) by omega)).2 ⟨by omega, by rw [Nat.add_sub_cancel, Nat.mul_mod_right]⟩
  exact riCycle_l0 hr hc hm hv (p * (m + 1) - 1) 1 (by omega) (Nat.le_refl _)
end
theorem sLead_ev {l : List Int} {m p : Nat} (hr : isRing l = true) (hc : Cyc (fun n => play n l) m p) (hm : m + p ≤ 10024) : Ev (fun k => spec_LeadOfRing.f k l) ((m : Int), true) := by
  refine Ev.bind (riGood_ev l (ring_ok hr).1) ?_
  rw [hr]
  exact Ev.pos rfl (Ev.bind (riCycle_ev hr hc hm) (Ev.now _))
theorem sLead_no {l : List Int} (hl : l.length ≤ 1048576) (hr : isRing l = false) : Ev (fun k => spec_LeadOfRing.f k l) (0, false) := by
  refine Ev.bind (riGood_ev l hl) ?_
  rw [hr]
  exact Ev.neg (by decide) (Ev.now _)
theorem drop_range (f : Nat → List Int) (m p : Nat) : ((List.range (m + p)).map f).drop m = (List.range p).map (fun i => f (m + i)) := by
  apply List.ext_getElem
  · simp
  · intro i h1 h2
    simp
theorem iCycle_ev {l : List Int} {m p : Nat} (hr : isRing l = true) (hc : Cyc (fun n => play n l) m p) (hm : m + p ≤ 10024) : Ev (fun k => impl_CycleOfRing.f k l) ((List.range p).map (fun i => play (m + i) l), true) := by
  refine Ev.bind (Ev.const (isRing_eq l)) ?_
  rw [hr]
  refine Ev.pos rfl (Ev.bind (ringCycle_ev hr hc hm) (Ev.pos (by simp only; omega) (Ev.pos (by simp only [List.length_map, List.length_range]; omega) ?_)))
  simp only [Int.toNat_natCast]
  rw [drop_range]
  exact Ev.now _
theorem iCycle_no {l : List Int} (hr : isRing l = false) : Ev (fun k => impl_CycleOfRing.f k l) ([], false) := by
  refine Ev.bind (Ev.const (isRing_eq l)) ?_
  rw [hr]
  exact Ev.neg (by decide) (Ev.now _)
theorem iPeriod_ev {l : List Int} {m p : Nat} (hr : isRing l = true) (hc : Cyc (fun n => play n l) m p) (hm : m + p ≤ 10024) : Ev (fun k => impl_PeriodOfRing.f k l) ((p : Int), true) := by
  refine Ev.bind (iCycle_ev hr hc hm) ?_
  simp only [List.length_map, List.length_range]
  exact Ev.now _
theorem iPeriod_no {l : List Int} (hr : isRing l = false) : Ev (fun k => impl_PeriodOfRing.f k l) (0, false) := Ev.bind (iCycle_no hr) (Ev.now _)
theorem far_eq {l : List Int} {m p s : Nat} (hc : Cyc (fun n => play n l) m p) (h : m ≤ s) : play (m + (s - m) % p) l = play s l := by
  have := hc.red (g := ringStep) (fun _ => rfl) (s - m)
  rw [show m + (s - m) = s from by omega] at this
  exact this.symm
theorem tmod_nat (a b : Nat) : Int.tmod ((a : Nat) : Int) ((b : Nat) : Int) = ((a % b : Nat) : Int) := (Int.ofNat_tmod _ _).symm
theorem iRingAfter_ev {l : List Int} {m p s : Nat} (h : isRing l = true) (hc : Cyc (fun n => play n l) m p) (hm : m + p ≤ 10024) (hs0 : s ≤ 1000000000) : Ev (fun k => impl_RingAfter.f k l (s : Int)) (play s l, true) := by
  have hpos := hc.pos
  have ha : (0 : Int) ≤ (s : Int) ∧ (s : Int) ≤ 1000000000 := by omega
  refine Ev.bind (Ev.const (isRing_eq l)) ?_
  rw [h, within_eq, decide_eq_true ha]
  refine Ev.pos rfl (Ev.some_ ?_)
  refine Ev.step (fun k => by rw [impl_RingAfter.j0]) ?_
  refine Ev.neg (by decide) (Ev.bind (ringCycle_ev h hc hm) ?_)
  simp only [List.length_map, List.length_range]
  have rdl : ∀ j, j < m + p → rd_L1 ((List.range (m + p)).map (fun i => play i l)) (j : Int) = play j l := by
    intro j hj
    unfold rd_L1
    rw [Int.toNat_natCast, List.getD_eq_getElem?_getD, List.getElem?_map, List.getElem?_range hj]
    rfl
  by_cases hs : (s : Int) ≥ ((m + p : Nat) : Int)
  · refine Ev.pos hs ?_
    have hlt := Nat.mod_lt (s - m) hpos
    rw [wrap_id (x := ((m + p : Nat) : Int) - (m : Int)) (by omega) (by omega), show ((m + p : Nat) : Int) - (m : Int) = (p : Int) from by omega, wrap_id (x := (s : Int) - (m : Int)) (by omega) (by omega), show (s : Int) - (m : Int) = ((s - m : Nat) : Int) from by omega, tmod_nat, wrap_id (by omega) (by omega), show (m : Int) + (((s - m) % p : Nat) : Int) = ((m + (s - m) % p : Nat) : Int) from by omega]
    refine Ev.neg (by omega) (Ev.pos (by omega) (Ev.pos (by omega) ?_))
    rw [rdl _ (by omega), far_eq hc (by omega)]
    exact Ev.now _
  · refine Ev.neg hs (Ev.pos (by omega) (Ev.pos (by omega) ?_))
    rw [rdl _ (by omega)]
    exact Ev.now _
theorem again_l0 (s p : Nat) (hp : 1 ≤ p) (a c : List Int) (hlen : a.length = c.length) (ha : a.length ≤ 1000) : ∀ (d i : Nat) (same : Bool), i + d = a.length → Ev (fun k => laws_FnRingAgain.l0 k (s : Int) (p : Int) a c same a (a.length : Int) (i : Int)) ((same && decide (a.drop i = c.drop i)) == ((Int.tmod (wrap64 (1 + (Int.tmod (s : Int) (p : Int)))) (p : Int)) == 0)) := by
  intro d
  induction d with
  | zero =>
    intro i same hi
    refine Ev.step (fun k => by rw [laws_FnRingAgain.l0]) ?_
    refine Ev.neg (by omega) (Ev.pos (by omega) (Ev.neg (by omega) ?_))
    rw [List.drop_of_length_le (by omega), List.drop_of_length_le (by omega)]
    simp only [decide_true, Bool.and_true]
    exact Ev.now _
  | succ d ih =>
    intro i same hi
    have h1 : i < a.length := by omega
    refine Ev.step (fun k => by rw [laws_FnRingAgain.l0]) ?_
    refine Ev.pos (by omega) (Ev.pos (by omega) (Ev.pos (by omega) ?_))
    cases same with
    | true =>
      refine Ev.pos rfl (Ev.pos (by omega) (Ev.pos (by omega) (Ev.pos rfl ?_)))
      rw [wrap_succ h1 (by omega)]
      have e : (true && decide (a.drop i = c.drop i)) = ((rd a (i : Int) == rd c (i : Int)) && decide (a.drop (i + 1) = c.drop (i + 1))) := by
        rw [drop_rd h1, drop_rd (l := c) (by omega)]
        simp
        by_cases e : rd a (i : Int) = rd c (i : Int) <;> simp [e]
      rw [e]
      exact ih (i + 1) _ (by omega)
    | false =>
      refine Ev.neg (by decide) (Ev.pos (by omega) (Ev.pos rfl ?_))
      rw [wrap_succ h1 (by omega)]
      have := ih (i + 1) false (by omega)
      simpa only [Bool.false_and] using this
theorem FnRingAgain : laws_FnRingAgain.Pure := by
  intro l a h0 h1 h2 h3
  refine Ev.rounds ?_
  refine Ev.congr (fun k => by rw [laws_FnRingAgain.f]) ?_
  by_cases hl : (l.length : Int) > 1000
  · exact Ev.pos hl (Ev.now _)
  refine Ev.neg hl ?_
  cases h : isRing l with
  | false =>
    refine Ev.bind (iLead_no h) (Ev.bind (sLead_no (by omega) h) (Ev.bind (iPeriod_no h) ?_))
    refine Ev.neg (by decide) (Ev.pos rfl ?_)
    refine Ev.step (fun k => by rw [laws_FnRingAgain.j0]) ?_
    refine Ev.neg (by decide) (Ev.neg (by decide) ?_)
    refine Ev.step (fun k => by rw [laws_FnRingAgain.j1]) ?_
    exact Ev.pos rfl (Ev.now _)
  | true =>
    obtain ⟨m, p, hc, hm⟩ := ring_cyc h
    have hpos := hc.pos
    refine Ev.bind (iLead_ev h hc hm) (Ev.bind (sLead_ev h hc hm) (Ev.bind (iPeriod_ev h hc hm) ?_))
    refine Ev.neg (by simp) (Ev.pos rfl ?_)
    refine Ev.step (fun k => by rw [laws_FnRingAgain.j0]) ?_
    refine Ev.neg (by simp) (Ev.pos rfl ?_)
    have out : Ev (fun k => laws_FnRingAgain.j1 k l a (m : Int) (p : Int) true) true := by
      refine Ev.step (fun k => by rw [laws_FnRingAgain.j1]) ?_
      exact Ev.pos rfl (Ev.now _)
    by_cases ha : a < 0
    · exact Ev.pos ha out
    refine Ev.neg ha ?_
    by_cases hb : a > 1000000
    · rw [decide_eq_true hb]; exact out
    rw [decide_eq_false hb]
    obtain ⟨s, rfl⟩ := Int.eq_ofNat_of_zero_le (show 0 ≤ a by omega)
    refine Ev.step (fun k => by rw [laws_FnRingAgain.j1]) ?_
    have hlt := Nat.mod_lt s hpos
    have e1 : wrap64 ((m : Int) + (s : Int)) = ((m + s : Nat) : Int) := by rw [wrap_id (by omega) (by omega)]; omega
    have e2 : wrap64 (((m + s : Nat) : Int) + (p : Int)) = ((m + s + p : Nat) : Int) := by rw [wrap_id (by omega) (by omega)]; omega
    have e3 : mx (p : Int) 1 = (p : Int) := by rw [mx_eq]; omega
    have e4 : wrap64 (wrap64 (((m + s : Nat) : Int) + 1) + Int.tmod (s : Int) (p : Int)) = ((m + s + 1 + s % p : Nat) : Int) := by
      rw [wrap_id (x := ((m + s : Nat) : Int) + 1) (by omega) (by omega), ← Int.ofNat_tmod, wrap_id (by omega) (by omega)]
      omega
    rw [e1, e2, e3, e4]
    refine Ev.neg (by decide) (Ev.bind (iRingAfter_ev h hc hm (by omega)) (Ev.bind (iRingAfter_ev h hc hm (by omega)) (Ev.neg (by omega) (Ev.bind (iRingAfter_ev h hc hm (by omega)) ?_))))
    refine Ev.pos rfl (Ev.pos rfl ?_)
    refine Ev.step (fun k => by rw [laws_FnRingAgain.j2]) ?_
    refine Ev.neg (by simp) ?_
    have hper : play (m + s + p) l = play (m + s) l := hc.per (g := ringStep) (fun _ => rfl) s
    simp only [hper]
    have hlen : (play (m + s) l).length = (play (m + s + 1 + s % p) l).length := by simp only [play_length]
    have key := again_l0 s p hpos (play (m + s) l) (play (m + s + 1 + s % p) l) hlen (by rw [play_length]; omega) (play (m + s) l).length 0 true (by omega)
    have hs := hc.same (g := ringStep) (fun _ => rfl) (show m + s < m + s + 1 + s % p by omega)
    rw [show m + s + 1 + s % p - (m + s) = 1 + s % p from by omega] at hs
    have e5 : Int.tmod (wrap64 (1 + Int.tmod (s : Int) (p : Int))) (p : Int) = (((1 + s % p) % p : Nat) : Int) := by
      rw [← Int.ofNat_tmod, wrap_id (by omega) (by omega), show (1 : Int) + ((s % p : Nat) : Int) = ((1 + s % p : Nat) : Int) from by omega, ← Int.ofNat_tmod]
    have e6 : ((true && decide ((play (m + s) l).drop 0 = (play (m + s + 1 + s % p) l).drop 0)) == (Int.tmod (wrap64 (1 + Int.tmod (s : Int) (p : Int))) (p : Int) == 0)) = true := by
      rw [e5, List.drop_zero, List.drop_zero, Bool.true_and]
      by_cases e : (1 + s % p) % p = 0
      · rw [decide_eq_true (hs.2 ⟨by omega, e⟩), e]
        rfl
      · rw [decide_eq_false (fun hh => e (hs.1 hh).2), beq_eq_false_iff_ne.2 (show (((1 + s % p) % p : Nat) : Int) ≠ 0 by omega)]
        rfl
    rw [e6] at key
    exact key

end Go.Proofs.YtffhhhkdnkdlgaaDoor.Pure
