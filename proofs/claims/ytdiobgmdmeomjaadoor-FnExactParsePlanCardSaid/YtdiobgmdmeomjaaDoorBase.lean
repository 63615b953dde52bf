import Derived.Test.YtdiobgmdmeomjaaDoorWMore
set_option linter.unusedVariables false
/- Plain laws of lists and whole numbers, for the pure statements of this seat. -/
namespace Go.Proofs.YtdiobgmdmeomjaaDoor.Base
open Go.RowKit Go.Proofs.YtdiobgmdmeomjaaDoorW.PrintWords Go.Proofs.YtdiobgmdmeomjaaDoorW.PrintLast Go.Proofs.YtdiobgmdmeomjaaDoorW.PrintMore

theorem wrap_id {x : Int} (h0 : -9223372036854775808 ≤ x) (h1 : x ≤ 9223372036854775807) : wrap64 x = x := by
  unfold wrap64
  omega
theorem wrap_succ {i n : Nat} (h : i < n) (hn : n ≤ 4611686018427387904) : wrap64 ((i : Int) + 1) = ((i + 1 : Nat) : Int) := by
  unfold wrap64
  omega
theorem rd_get {l : List Int} {i : Nat} (h : i < l.length) : rd l (i : Int) = l[i] := by
  unfold rd
  rw [Int.toNat_natCast, List.getD_eq_getElem?_getD, List.getElem?_eq_getElem h]
  rfl
theorem rd_mem {l : List Int} {i : Nat} (h : i < l.length) : rd l (i : Int) ∈ l := by
  rw [rd_get h]
  exact List.getElem_mem h
theorem drop_rd {l : List Int} {i : Nat} (h : i < l.length) : l.drop i = rd l (i : Int) :: l.drop (i + 1) := by
  rw [rd_get h]
  exact List.drop_eq_getElem_cons h
theorem take_rd {l : List Int} {i : Nat} (h : i < l.length) : l.take (i + 1) = l.take i ++ [rd l (i : Int)] := by
  rw [rd_get h]
  exact List.take_succ_eq_append_getElem h
theorem rd_mid (a : List Int) (x : Int) (b : List Int) : rd (a ++ x :: b) (a.length : Int) = x := by
  rw [rd_get (by simp)]
  simp
/-- A loop that counts from i up to n: F i s is what it comes to from round i on, with s. -/
theorem range {α σ : Type} {n : Nat} (G : σ → Int → Nat → Option α) (F : Nat → σ → α) (Inv : Nat → σ → Prop)
    (hend : ∀ s, Inv n s → Ev (G s (n : Int)) (F n s))
    (hstep : ∀ (i : Nat) s, i < n → Inv i s → (∀ s', Inv (i + 1) s' → Ev (G s' ((i + 1 : Nat) : Int)) (F (i + 1) s')) → Ev (G s (i : Int)) (F i s)) :
    ∀ (i : Nat) s, i ≤ n → Inv i s → Ev (G s (i : Int)) (F i s) := by
  intro i s hi
  obtain ⟨d, hd⟩ : ∃ d, n - i = d := ⟨_, rfl⟩
  induction d generalizing i s with
  | zero =>
    intro h
    obtain rfl : i = n := by omega
    exact hend s h
  | succ d ih =>
    intro h
    exact hstep i s (by omega) h (fun s' h' => ih (i + 1) s' (by omega) (by omega) h')
theorem Ev.det {α : Type} {g : Nat → Option α} {a b : α} (h : Ev g a) (k : Ev g b) : a = b := by
  obtain ⟨K, h⟩ := h
  obtain ⟨L, k⟩ := k
  have h1 := h (max K L) (by omega)
  have h2 := k (max K L) (by omega)
  rw [h1] at h2
  exact Option.some.inj h2
theorem Ev.const {α : Type} {a : Option α} {r : α} (h : a = some r) : Ev (fun _ => a) r := ⟨0, fun _ _ => h⟩
theorem Ev.some_ {α β : Type} {g : Nat → β → Option α} {a : β} {r : α} (k : Ev (fun n => g n a) r) : Ev (fun n => (some a).bind (g n)) r := k
theorem Ev.pos {α : Type} {c : Prop} [Decidable c] {f g : Nat → Option α} {r : α} (h : c) (k : Ev f r) : Ev (fun n => if c then f n else g n) r := by
  obtain ⟨K, k⟩ := k
  exact ⟨K, fun n hn => (if_pos h).trans (k n hn)⟩
theorem Ev.neg {α : Type} {c : Prop} [Decidable c] {f g : Nat → Option α} {r : α} (h : ¬ c) (k : Ev g r) : Ev (fun n => if c then f n else g n) r := by
  obtain ⟨K, k⟩ := k
  exact ⟨K, fun n hn => (if_neg h).trans (k n hn)⟩
/-- One, two, three, .. from k on. -/
def upFrom (k : Int) : Nat → List Int
  | 0 => []
  | n + 1 => k :: upFrom (k + 1) n
theorem upFrom_length (k : Int) (n : Nat) : (upFrom k n).length = n := by
  induction n generalizing k with
  | zero => rfl
  | succ n ih => simp [upFrom, ih]
theorem upFrom_get (n : Nat) : ∀ (k : Int) (i : Nat) (h : i < (upFrom k n).length), (upFrom k n)[i] = k + i := by
  induction n with
  | zero => intro k i h; simp [upFrom] at h
  | succ n ih =>
    intro k i h
    cases i with
    | zero => simp [upFrom]
    | succ i =>
      simp only [upFrom, List.getElem_cons_succ]
      rw [ih]
      omega
theorem upFrom_snoc (n : Nat) : ∀ k : Int, upFrom k (n + 1) = upFrom k n ++ [k + n] := by
  induction n with
  | zero => intro k; simp [upFrom]
  | succ n ih =>
    intro k
    rw [show upFrom k (n + 1 + 1) = k :: upFrom (k + 1) (n + 1) from rfl, ih, show upFrom k (n + 1) = k :: upFrom (k + 1) n from rfl]
    simp only [List.cons_append]
    congr 3
    omega
theorem set_app {α : Type} (a : List α) (x y : α) (b : List α) : (a ++ x :: b).set a.length y = a ++ y :: b := by
  induction a with
  | nil => rfl
  | cons z a ih => simp [ih]
/-- All numbers lie between two. -/
def allIn (l : List Int) (a b : Int) : Bool := l.all fun x => decide (a ≤ x ∧ x ≤ b)
theorem allIn_iff {l : List Int} {a b : Int} : allIn l a b = true ↔ ∀ x ∈ l, a ≤ x ∧ x ≤ b := by
  unfold allIn
  rw [List.all_eq_true]
  exact ⟨fun h x hx => of_decide_eq_true (h x hx), fun h x hx => decide_eq_true (h x hx)⟩
theorem allIn_rd {l : List Int} {a b : Int} (h : allIn l a b = true) {i : Nat} (hi : i < l.length) : a ≤ rd l (i : Int) ∧ rd l (i : Int) ≤ b := allIn_iff.1 h _ (rd_mem hi)
def isRing (l : List Int) : Bool := decide ((2 : Int) ≤ (l.length : Int) ∧ (l.length : Int) ≤ 10) && allIn l 0 1000
def areJobs (l : List Int) : Bool := decide ((1 : Int) ≤ (l.length : Int) ∧ (l.length : Int) ≤ 9) && allIn l 1 1000
theorem isRing_len {l : List Int} (h : isRing l = true) : 2 ≤ l.length ∧ l.length ≤ 10 ∧ allIn l 0 1000 = true := by
  unfold isRing at h
  rw [Bool.and_eq_true] at h
  have := of_decide_eq_true h.1
  exact ⟨by omega, by omega, h.2⟩
theorem areJobs_len {l : List Int} (h : areJobs l = true) : 1 ≤ l.length ∧ l.length ≤ 9 ∧ allIn l 1 1000 = true := by
  unfold areJobs at h
  rw [Bool.and_eq_true] at h
  have := of_decide_eq_true h.1
  exact ⟨by omega, by omega, h.2⟩
theorem allIn_mono {l : List Int} {a b a' b' : Int} (h : allIn l a b = true) (h1 : a' ≤ a) (h2 : b ≤ b') : allIn l a' b' = true :=
  allIn_iff.2 fun x hx => by have := allIn_iff.1 h x hx; omega
theorem allIn_set {l : List Int} {a b v : Int} (h : allIn l a b = true) (h1 : a ≤ v) (h2 : v ≤ b) (n : Nat) : allIn (l.set n v) a b = true :=
  allIn_iff.2 fun x hx => by
    rcases List.mem_or_eq_of_mem_set hx with hx | rfl
    · exact allIn_iff.1 h x hx
    · exact ⟨h1, h2⟩
theorem allIn_at {l : List Int} {a b p : Int} (h : allIn l a b = true) (h0 : 0 ≤ p) (h1 : p < (l.length : Int)) : a ≤ rd l p ∧ rd l p ≤ b := by
  have := allIn_rd h (i := p.toNat) (by omega)
  rwa [Int.toNat_of_nonneg h0] at this
theorem allIn_rep (n : Nat) {v a b : Int} (h1 : a ≤ v) (h2 : v ≤ b) : allIn (List.replicate n v) a b = true :=
  allIn_iff.2 fun x hx => by rw [List.eq_of_mem_replicate hx]; exact ⟨h1, h2⟩
theorem allIn_take {l : List Int} {a b : Int} (h : allIn l a b = true) (n : Nat) : allIn (l.take n) a b = true :=
  allIn_iff.2 fun x hx => allIn_iff.1 h x (List.mem_of_mem_take hx)
theorem allIn_drop {l : List Int} {a b : Int} (h : allIn l a b = true) (n : Nat) : allIn (l.drop n) a b = true :=
  allIn_iff.2 fun x hx => allIn_iff.1 h x (List.mem_of_mem_drop hx)
theorem allIn_app {l m : List Int} {a b : Int} (h : allIn l a b = true) (k : allIn m a b = true) : allIn (l ++ m) a b = true :=
  allIn_iff.2 fun x hx => by
    rcases List.mem_append.1 hx with hx | hx
    · exact allIn_iff.1 h x hx
    · exact allIn_iff.1 k x hx
theorem allIn_one {a b x : Int} (h1 : a ≤ x) (h2 : x ≤ b) : allIn [x] a b = true :=
  allIn_iff.2 fun y hy => by rw [List.mem_singleton.1 hy]; exact ⟨h1, h2⟩
theorem allIn_nil (a b : Int) : allIn [] a b = true := rfl
theorem mx_eq (a b : Int) : mx a b = max a b := by unfold mx; split <;> omega
theorem mn_eq (a b : Int) : mn a b = min a b := by unfold mn; split <;> omega
def lmaxF (a : Int) : List Int → Int
  | [] => a
  | x :: t => lmaxF (max a x) t
def lminF (a : Int) : List Int → Int
  | [] => a
  | x :: t => lminF (min a x) t
def lsumF (a : Int) : List Int → Int
  | [] => a
  | x :: t => lsumF (a + x) t
def lsum (l : List Int) : Int := lsumF 0 l
def lmax (l : List Int) : Int := lmaxF (rd l 0) (l.drop 1)
def lmin (l : List Int) : Int := lminF (rd l 0) (l.drop 1)
theorem le_lmaxF (l : List Int) : ∀ a, a ≤ lmaxF a l := by
  induction l with
  | nil => intro a; exact Int.le_refl _
  | cons x t ih => intro a; have := ih (max a x); simp only [lmaxF]; omega
theorem mem_le_lmaxF (l : List Int) : ∀ a x, x ∈ l → x ≤ lmaxF a l := by
  induction l with
  | nil => intro a x h; cases h
  | cons y t ih =>
    intro a x h
    simp only [lmaxF]
    rcases List.mem_cons.1 h with rfl | h
    · have := le_lmaxF t (max a x); omega
    · exact ih _ _ h
theorem lmaxF_mem (l : List Int) : ∀ a, lmaxF a l = a ∨ lmaxF a l ∈ l := by
  induction l with
  | nil => intro a; exact .inl rfl
  | cons y t ih =>
    intro a
    simp only [lmaxF]
    rcases ih (max a y) with h | h
    · rw [h]
      by_cases hl : a ≤ y
      · exact .inr (by rw [Int.max_eq_right hl]; exact List.mem_cons_self)
      · exact .inl (Int.max_eq_left (by omega))
    · exact .inr (List.mem_cons_of_mem _ h)
theorem lmaxF_le {l : List Int} {a b : Int} (h0 : a ≤ b) (h : ∀ x ∈ l, x ≤ b) : lmaxF a l ≤ b := by
  rcases lmaxF_mem l a with e | e
  · omega
  · exact h _ e
theorem lmaxF_max (l : List Int) : ∀ a b, lmaxF (max a b) l = max a (lmaxF b l) := by
  induction l with
  | nil => intro a b; rfl
  | cons x t ih => intro a b; simp only [lmaxF]; rw [← ih, Int.max_assoc]
theorem lminF_le (l : List Int) : ∀ a, lminF a l ≤ a := by
  induction l with
  | nil => intro a; exact Int.le_refl _
  | cons x t ih => intro a; have := ih (min a x); simp only [lminF]; omega
theorem lminF_le_mem (l : List Int) : ∀ a x, x ∈ l → lminF a l ≤ x := by
  induction l with
  | nil => intro a x h; cases h
  | cons y t ih =>
    intro a x h
    simp only [lminF]
    rcases List.mem_cons.1 h with rfl | h
    · have := lminF_le t (min a x); omega
    · exact ih _ _ h
theorem lminF_mem (l : List Int) : ∀ a, lminF a l = a ∨ lminF a l ∈ l := by
  induction l with
  | nil => intro a; exact .inl rfl
  | cons y t ih =>
    intro a
    simp only [lminF]
    rcases ih (min a y) with h | h
    · rw [h]
      by_cases hl : a ≤ y
      · exact .inl (Int.min_eq_left hl)
      · exact .inr (by rw [Int.min_eq_right (by omega)]; exact List.mem_cons_self)
    · exact .inr (List.mem_cons_of_mem _ h)
theorem list_cons_rd {l : List Int} (h : l ≠ []) : l = rd l 0 :: l.drop 1 := by
  cases l with
  | nil => exact absurd rfl h
  | cons x t => rfl
theorem lmaxF_zero {l : List Int} (h : l ≠ []) (h0 : ∀ x ∈ l, 0 ≤ x) : lmaxF 0 l = lmax l := by
  cases l with
  | nil => exact absurd rfl h
  | cons x t =>
    have := h0 x List.mem_cons_self
    show lmaxF (max 0 x) t = lmaxF x t
    rw [Int.max_eq_right this]
theorem lmax_mem {l : List Int} (h : l ≠ []) : lmax l ∈ l := by
  cases l with
  | nil => exact absurd rfl h
  | cons x t =>
    show lmaxF x t ∈ _
    rcases lmaxF_mem t x with e | e
    · rw [e]; exact List.mem_cons_self
    · exact List.mem_cons_of_mem _ e
theorem le_lmax {l : List Int} {x : Int} (h : x ∈ l) : x ≤ lmax l := by
  cases l with
  | nil => cases h
  | cons y t =>
    show x ≤ lmaxF y t
    rcases List.mem_cons.1 h with rfl | h
    · exact le_lmaxF t x
    · exact mem_le_lmaxF t y x h
theorem lmin_mem {l : List Int} (h : l ≠ []) : lmin l ∈ l := by
  cases l with
  | nil => exact absurd rfl h
  | cons x t =>
    show lminF x t ∈ _
    rcases lminF_mem t x with e | e
    · rw [e]; exact List.mem_cons_self
    · exact List.mem_cons_of_mem _ e
theorem lmin_le {l : List Int} {x : Int} (h : x ∈ l) : lmin l ≤ x := by
  cases l with
  | nil => cases h
  | cons y t =>
    show lminF y t ≤ x
    rcases List.mem_cons.1 h with rfl | h
    · exact lminF_le t x
    · exact lminF_le_mem t y x h
theorem lsumF_add (l : List Int) : ∀ a, lsumF a l = a + lsumF 0 l := by
  induction l with
  | nil => intro a; simp [lsumF]
  | cons x t ih => intro a; simp only [lsumF]; rw [ih, ih (0 + x)]; omega
theorem lsum_nil : lsum [] = 0 := rfl
theorem lsum_cons (x : Int) (t : List Int) : lsum (x :: t) = x + lsum t := by
  show lsumF (0 + x) t = _
  rw [lsumF_add, Int.zero_add]
  rfl
theorem lsum_app (l m : List Int) : lsum (l ++ m) = lsum l + lsum m := by
  induction l with
  | nil => simp [lsum_nil]
  | cons x t ih => rw [List.cons_append, lsum_cons, lsum_cons, ih]; omega
theorem lsum_le {l : List Int} {a b : Int} (h : allIn l a b = true) : a * l.length ≤ lsum l ∧ lsum l ≤ b * l.length := by
  induction l with
  | nil => simp [lsum_nil]
  | cons x t ih =>
    have h1 := allIn_iff.1 h x List.mem_cons_self
    have h2 := ih (allIn_iff.2 fun y hy => allIn_iff.1 h y (List.mem_cons_of_mem _ hy))
    rw [lsum_cons, List.length_cons, Int.natCast_succ, Int.mul_add, Int.mul_add]
    omega
/-- The first place of the least number. -/
def fmin : List Int → Nat
  | [] => 0
  | x :: t => if t.all (fun y => decide (x ≤ y)) = true then 0 else fmin t + 1
theorem fmin_spec (l : List Int) (h : l ≠ []) : fmin l < l.length ∧ (∀ j : Nat, j < l.length → rd l (fmin l : Int) ≤ rd l (j : Int)) ∧ (∀ j : Nat, j < fmin l → rd l (fmin l : Int) < rd l (j : Int)) := by
  induction l with
  | nil => exact absurd rfl h
  | cons x t ih =>
    by_cases hx : t.all (fun y => decide (x ≤ y)) = true
    · have e : fmin (x :: t) = 0 := by unfold fmin; rw [if_pos hx]
      rw [e]
      refine ⟨by simp, fun j hj => ?_, fun j hj => absurd hj (Nat.not_lt_zero _)⟩
      have hm := rd_mem hj
      have hz : rd (x :: t) ((0 : Nat) : Int) = x := rfl
      rw [hz]
      rcases List.mem_cons.1 hm with hm | hm
      · omega
      · exact of_decide_eq_true (List.all_eq_true.1 hx _ hm)
    · have ht : t ≠ [] := by intro e; subst e; exact hx rfl
      obtain ⟨i1, i2, i3⟩ := ih ht
      have e : fmin (x :: t) = fmin t + 1 := by rw [fmin, if_neg hx]
      have hs : ∀ j : Nat, rd (x :: t) ((j + 1 : Nat) : Int) = rd t (j : Int) := fun j => by unfold rd; simp
      obtain ⟨y, hy, hxy⟩ : ∃ y ∈ t, y < x := by
        have hx' : t.all (fun y => decide (x ≤ y)) = false := by simpa using hx
        rw [List.all_eq_false] at hx'
        obtain ⟨y, hy, h⟩ := hx'
        exact ⟨y, hy, by simpa using h⟩
      have hlt : rd t (fmin t : Int) < x := by
        obtain ⟨j, hj, rfl⟩ := List.getElem_of_mem hy
        have := i2 j hj
        rw [rd_get hj] at this
        omega
      rw [e]
      refine ⟨by simpa using i1, fun j hj => ?_, fun j hj => ?_⟩
      · rw [hs]
        cases j with
        | zero => have hz : rd (x :: t) ((0 : Nat) : Int) = x := rfl
                  rw [hz]; omega
        | succ j => rw [hs]; exact i2 j (by simpa using hj)
      · rw [hs]
        cases j with
        | zero => have hz : rd (x :: t) ((0 : Nat) : Int) = x := rfl
                  rw [hz]; omega
        | succ j => rw [hs]; exact i3 j (by omega)
theorem fmin_uniq {l : List Int} (h : l ≠ []) {b : Nat} (h1 : b < l.length) (h2 : ∀ j : Nat, j < l.length → rd l (b : Int) ≤ rd l (j : Int)) (h3 : ∀ j : Nat, j < b → rd l (b : Int) < rd l (j : Int)) : b = fmin l := by
  obtain ⟨i1, i2, i3⟩ := fmin_spec l h
  by_cases hlt : b < fmin l
  · have := i3 b hlt; have := h2 _ i1; omega
  · by_cases hgt : fmin l < b
    · have := h3 _ hgt; have := i2 b h1; omega
    · omega
theorem rd_set {l : List Int} {p : Int} {n : Nat} {v : Int} (h0 : 0 ≤ p) (hn : n < l.length) : rd (l.set n v) p = if p = (n : Int) then v else rd l p := by
  unfold rd
  rw [List.getD_eq_getElem?_getD, List.getD_eq_getElem?_getD, List.getElem?_set]
  by_cases h : p = (n : Int)
  · rw [if_pos h, if_pos (by omega), if_pos hn]
    rfl
  · rw [if_neg h, if_neg (by omega)]
/- ## loads -/
def bump (acc : List Int) (p j : Int) : List Int := acc.set p.toNat (rd acc p + j)
def loadsF (acc : List Int) : List Int → List Int → List Int
  | p :: ps, j :: js => loadsF (bump acc p j) ps js
  | _, _ => acc
def loads (jobs : List Int) (m : Int) (plan : List Int) : List Int := loadsF (List.replicate m.toNat 0) plan jobs
theorem bump_length (acc : List Int) (p j : Int) : (bump acc p j).length = acc.length := by unfold bump; simp
theorem loadsF_length (ps : List Int) : ∀ acc js, (loadsF acc ps js).length = acc.length := by
  induction ps with
  | nil => intro acc js; cases js <;> rfl
  | cons p ps ih =>
    intro acc js
    cases js with
    | nil => rfl
    | cons j js => simp only [loadsF]; rw [ih, bump_length]
theorem loads_length (jobs : List Int) (m : Int) (plan : List Int) : (loads jobs m plan).length = m.toNat := by unfold loads; rw [loadsF_length]; simp
theorem loadsF_allIn (ps : List Int) : ∀ (acc js : List Int) (b : Int), allIn acc 0 b = true → allIn js 0 1000 = true → allIn ps 0 ((acc.length : Int) - 1) = true → allIn (loadsF acc ps js) 0 (b + 1000 * js.length) = true := by
  induction ps with
  | nil => intro acc js b h hj hp; cases js <;> exact allIn_mono h (Int.le_refl _) (by simp only [List.length_cons, List.length_nil]; omega)
  | cons p ps ih =>
    intro acc js b h hj hp
    cases js with
    | nil => exact allIn_mono h (Int.le_refl _) (by simp)
    | cons j js =>
      have h1 := allIn_iff.1 hj j List.mem_cons_self
      have h2 := allIn_iff.1 hp p List.mem_cons_self
      have h3 := allIn_at h (p := p) (by omega) (by omega)
      have h4 : allIn (bump acc p j) 0 (b + 1000) = true := allIn_set (allIn_mono h (Int.le_refl _) (by omega)) (by omega) (by omega) _
      have := ih (bump acc p j) js (b + 1000) h4 (allIn_iff.2 fun y hy => allIn_iff.1 hj y (List.mem_cons_of_mem _ hy)) (by rw [bump_length]; exact allIn_iff.2 fun y hy => allIn_iff.1 hp y (List.mem_cons_of_mem _ hy))
      exact allIn_mono this (Int.le_refl _) (by rw [List.length_cons]; omega)
def endOf (jobs : List Int) (m : Int) (plan : List Int) : Int := lmaxF 0 (loads jobs m plan)
/-- Jobs, machines and a plan that belong together. -/
structure Planned (jobs : List Int) (m : Int) (plan : List Int) : Prop where
  len : plan.length = jobs.length
  few : jobs.length ≤ 9
  some : 1 ≤ jobs.length
  job : allIn jobs 1 1000 = true
  m1 : 1 ≤ m
  m4 : m ≤ 4
  at_ : allIn plan 0 (m - 1) = true
theorem Planned.loads_allIn {jobs plan : List Int} {m : Int} (h : Planned jobs m plan) : allIn (loads jobs m plan) 0 (1000 * jobs.length) = true := by
  have hm := h.m1
  have := loadsF_allIn plan (List.replicate m.toNat 0) jobs 0 (allIn_rep _ (Int.le_refl _) (Int.le_refl _)) (allIn_mono h.job (by decide) (Int.le_refl _)) (by rw [List.length_replicate]; exact allIn_mono h.at_ (Int.le_refl _) (by omega))
  rwa [Int.zero_add] at this
theorem Planned.end_bound {jobs plan : List Int} {m : Int} (h : Planned jobs m plan) : 0 ≤ endOf jobs m plan ∧ endOf jobs m plan ≤ 9000 := by
  refine ⟨le_lmaxF _ _, lmaxF_le (by decide) fun x hx => ?_⟩
  have := allIn_iff.1 h.loads_allIn x hx
  have := h.few
  omega
theorem Planned.set {jobs plan : List Int} {m : Int} (h : Planned jobs m plan) (i : Nat) {v : Int} (h0 : 0 ≤ v) (h1 : v < m) : Planned jobs m (plan.set i v) :=
  ⟨by rw [List.length_set]; exact h.len, h.few, h.some, h.job, h.m1, h.m4, allIn_set h.at_ h0 (by omega) i⟩
theorem loads_ne {jobs plan : List Int} {m : Int} (h : 1 ≤ m) : loads jobs m plan ≠ [] := by
  intro e
  have := loads_length jobs m plan
  rw [e] at this
  simp at this
  omega
theorem ext_rd {s t : List Int} (h : s.length = t.length) (h1 : ∀ p : Nat, p < s.length → rd s (p : Int) = rd t (p : Int)) : s = t := by
  refine List.ext_getElem h (fun p hp hq => ?_)
  have := h1 p hp
  rwa [rd_get hp, rd_get hq] at this
theorem rd_reverse {l : List Int} {p : Nat} (h : p < l.length) : rd l.reverse (p : Int) = rd l ((l.length - 1 - p : Nat) : Int) := by
  rw [rd_get (by simpa using h), rd_get (by omega), List.getElem_reverse]
/- ## rings -/
def absd (x : Int) : Int := max x (-x)
def stepAt (l : List Int) (i : Nat) : Int := absd (rd l (i : Int) - rd l (((i + 1) % l.length : Nat) : Int))
def ringStep (l : List Int) : List Int := (List.range l.length).map (stepAt l)
theorem ringStep_length (l : List Int) : (ringStep l).length = l.length := by unfold ringStep; simp
theorem rd_ringStep {l : List Int} {i : Nat} (h : i < l.length) : rd (ringStep l) (i : Int) = stepAt l i := by
  rw [rd_get (by rw [ringStep_length]; exact h)]
  unfold ringStep
  simp
theorem absd_bound {x b : Int} (h1 : -b ≤ x) (h2 : x ≤ b) : 0 ≤ absd x ∧ absd x ≤ b := by unfold absd; omega
theorem stepAt_bound {l : List Int} {b : Int} (h : allIn l 0 b = true) {i : Nat} (hi : i < l.length) : 0 ≤ stepAt l i ∧ stepAt l i ≤ b := by
  have h1 := allIn_rd h hi
  have h2 := allIn_rd h (Nat.mod_lt (i + 1) (Nat.lt_of_le_of_lt (Nat.zero_le i) hi))
  unfold stepAt
  exact absd_bound (by omega) (by omega)
theorem ringStep_allIn {l : List Int} {b : Int} (h : allIn l 0 b = true) : allIn (ringStep l) 0 b = true := by
  refine allIn_iff.2 fun x hx => ?_
  unfold ringStep at hx
  obtain ⟨i, hi, rfl⟩ := List.mem_map.1 hx
  exact stepAt_bound h (List.mem_range.1 hi)
theorem ringStep_isRing {l : List Int} (h : isRing l = true) : isRing (ringStep l) = true := by
  obtain ⟨h1, h2, h3⟩ := isRing_len h
  unfold isRing
  rw [ringStep_length, ringStep_allIn h3]
  simp
  omega
/- ## a ring's way -/
def play : Nat → List Int → List Int
  | 0, l => l
  | n + 1, l => ringStep (play n l)
theorem play_succ' (n : Nat) (l : List Int) : play (n + 1) l = play n (ringStep l) := by
  induction n with
  | zero => rfl
  | succ n ih => rw [play, ih]; rfl
theorem play_add (a b : Nat) (l : List Int) : play (a + b) l = play b (play a l) := by
  induction b with
  | zero => rfl
  | succ b ih => rw [← Nat.add_assoc, play, ih]; rfl
theorem play_isRing {l : List Int} (h : isRing l = true) (n : Nat) : isRing (play n l) = true := by
  induction n with
  | zero => exact h
  | succ n ih => exact ringStep_isRing ih
theorem play_length (n : Nat) (l : List Int) : (play n l).length = l.length := by
  induction n with
  | zero => rfl
  | succ n ih => rw [play, ringStep_length, ih]
theorem play_allIn {l : List Int} {b : Int} (h : allIn l 0 b = true) (n : Nat) : allIn (play n l) 0 b = true := by
  induction n with
  | zero => exact h
  | succ n ih => exact ringStep_allIn ih
/-- From m on it comes again behind every p, and ahead of m + p nothing comes twice. -/
structure Cyc {α : Type} (s : Nat → α) (m p : Nat) : Prop where
  pos : 0 < p
  back : s (m + p) = s m
  apart : ∀ i j, i < j → j < m + p → s i ≠ s j
theorem cyc_of_rep {α : Type} (s : Nat → α) : ∀ j i : Nat, i < j → s i = s j → ∃ m p, Cyc s m p ∧ m + p ≤ j := by
  intro j
  induction j using Nat.strongRecOn with
  | _ j ih =>
    intro i hij he
    by_cases h : ∃ j' i', j' < j ∧ i' < j' ∧ s i' = s j'
    · obtain ⟨j', i', h1, h2, h3⟩ := h
      obtain ⟨m, p, hc, hl⟩ := ih j' h1 i' h2 h3
      exact ⟨m, p, hc, by omega⟩
    · refine ⟨i, j - i, ⟨by omega, by rw [show i + (j - i) = j from by omega]; exact he.symm, fun a b hab hb e => h ⟨b, a, by omega, hab, e⟩⟩, by omega⟩
section
variable {α : Type} {g : α → α} {s : Nat → α} {m p : Nat}
theorem Cyc.per (h : Cyc s m p) (hs : ∀ n, s (n + 1) = g (s n)) (d : Nat) : s (m + d + p) = s (m + d) := by
  induction d with
  | zero => exact h.back
  | succ d ih => rw [show m + (d + 1) + p = m + d + p + 1 from by omega, hs, ih, ← hs]; rfl
theorem Cyc.red (h : Cyc s m p) (hs : ∀ n, s (n + 1) = g (s n)) (d : Nat) : s (m + d) = s (m + d % p) := by
  induction d using Nat.strongRecOn with
  | _ d ih =>
    by_cases hd : d < p
    · rw [Nat.mod_eq_of_lt hd]
    · have h1 := h.pos
      have h2 := h.per hs (d - p)
      rw [show m + (d - p) + p = m + d from by omega] at h2
      rw [h2, ih (d - p) (by omega), ← Nat.mod_eq_sub_mod (by omega)]
theorem Cyc.same (h : Cyc s m p) (hs : ∀ n, s (n + 1) = g (s n)) {i j : Nat} (hij : i < j) : s i = s j ↔ m ≤ i ∧ (j - i) % p = 0 := by
  have hp := h.pos
  by_cases hi : m ≤ i
  · have e1 := h.red hs (i - m)
    have e2 := h.red hs (j - m)
    rw [show m + (i - m) = i from by omega] at e1
    rw [show m + (j - m) = j from by omega] at e2
    have l1 := Nat.mod_lt (i - m) hp
    have l2 := Nat.mod_lt (j - m) hp
    have key : (j - i) % p = 0 ↔ (i - m) % p = (j - m) % p := by
      constructor
      · intro h0
        obtain ⟨q, hq⟩ := Nat.dvd_of_mod_eq_zero h0
        rw [show j - m = i - m + p * q from by omega, Nat.add_mul_mod_self_left]
      · intro h0
        have := Nat.sub_mod_eq_zero_of_mod_eq h0.symm
        rwa [show j - m - (i - m) = j - i from by omega] at this
    rw [key]
    constructor
    · intro e
      refine ⟨hi, ?_⟩
      rw [e1, e2] at e
      rcases Nat.lt_trichotomy ((i - m) % p) ((j - m) % p) with h3 | h3 | h3
      · exact absurd e (h.apart _ _ (by omega) (by omega))
      · exact h3
      · exact absurd e.symm (h.apart _ _ (by omega) (by omega))
    · intro e
      rw [e1, e2, e.2]
  · refine ⟨fun e => ?_, fun e => absurd e.1 hi⟩
    by_cases hj : j < m + p
    · exact absurd e (h.apart _ _ hij hj)
    · have e2 := h.red hs (j - m)
      rw [show m + (j - m) = j from by omega] at e2
      have l2 := Nat.mod_lt (j - m) hp
      rw [e2] at e
      exact absurd e (h.apart _ _ (by omega) (by omega))
end
/-- More rounds than values: two are the same. -/
theorem pigeon : ∀ (N : Nat) (f : Nat → Nat), (∀ i, i ≤ N → f i < N) → ∃ i j, i < j ∧ j ≤ N ∧ f i = f j
  | 0, f, h => absurd (h 0 (Nat.le_refl _)) (by omega)
  | N + 1, f, h => by
    by_cases h1 : ∃ i, i ≤ N ∧ f i = f (N + 1)
    · obtain ⟨i, hi, e⟩ := h1
      exact ⟨i, N + 1, by omega, Nat.le_refl _, e⟩
    · have hne : ∀ i, i ≤ N → f i ≠ f (N + 1) := fun i hi e => h1 ⟨i, hi, e⟩
      obtain ⟨i, j, hij, hj, e⟩ := pigeon N (fun i => if f i < f (N + 1) then f i else f i - 1) (fun i hi => by
        have a1 := h i (by omega)
        have a2 := h (N + 1) (Nat.le_refl _)
        have a3 := hne i hi
        split <;> omega)
      have a1 := hne i (by omega)
      have a2 := hne j hj
      refine ⟨i, j, hij, by omega, ?_⟩
      split at e <;> split at e <;> omega
theorem ring_ok {l : List Int} (h : isRing l = true) : l.length ≤ 1048576 ∧ allIn l 0 1000000 = true :=
  ⟨by have := isRing_len h; omega, allIn_mono (isRing_len h).2.2 (by decide) (by decide)⟩
theorem play_ok {l : List Int} (h : isRing l = true) (n : Nat) : (play n l).length ≤ 1048576 ∧ allIn (play n l) 0 1000000 = true := ring_ok (play_isRing h n)
/- ### the greatest number comes down -/
def cy (l : List Int) (i : Nat) : Int := rd l ((i % l.length : Nat) : Int)
theorem cy_step {l : List Int} (hn : 0 < l.length) (i : Nat) : cy (ringStep l) i = absd (cy l i - cy l (i + 1)) := by
  unfold cy
  rw [ringStep_length, rd_ringStep (Nat.mod_lt i hn)]
  unfold stepAt
  rw [Nat.add_mod i 1, Nat.add_mod (i % l.length) 1, Nat.mod_mod]
theorem cy_bound {l : List Int} {b : Int} (hn : 0 < l.length) (h : allIn l 0 b = true) (i : Nat) : 0 ≤ cy l i ∧ cy l i ≤ b := allIn_rd h (Nat.mod_lt i hn)
def two (M x : Int) : Prop := x = 0 ∨ x = M
theorem two_of_absd {M x y : Int} (_ : 0 ≤ M) (hx : two M x) (hy : 0 ≤ y ∧ y ≤ M) (h : two M (absd (x - y))) : two M y := by
  unfold two absd at *
  omega
theorem two_of_absd' {M x y : Int} (_ : 0 ≤ M) (hx : two M x) (hy : 0 ≤ y ∧ y ≤ M) (h : two M (absd (y - x))) : two M y := by
  unfold two absd at *
  omega
theorem two_absd {M x y : Int} (_ : 0 ≤ M) (hx : two M x) (hy : two M y) : two M (absd (x - y)) := by
  unfold two absd at *
  omega
theorem ends_of_absd {M x y : Int} (_ : 0 < M) (hx : 0 ≤ x ∧ x ≤ M) (hy : 0 ≤ y ∧ y ≤ M) (h : absd (x - y) = M) : (x = 0 ∧ y = M) ∨ (x = M ∧ y = 0) := by
  unfold absd at h
  omega
/-- k + 1 neighbours from i on are 0 or M, and one is M. -/
def Blk (M : Int) (l : List Int) (i k : Nat) : Prop := (∀ t, t ≤ k → two M (cy l (i + t))) ∧ ∃ t, t ≤ k ∧ cy l (i + t) = M
theorem blk_back {M : Int} (hM : 0 < M) {l : List Int} (hn : 0 < l.length) (hb : allIn l 0 M = true) {i k : Nat} (h : Blk M (ringStep l) i k) : Blk M l i (k + 1) := by
  obtain ⟨h1, t0, ht0, h2⟩ := h
  rw [cy_step hn] at h2
  have b := fun j => cy_bound hn hb j
  have e := ends_of_absd hM (b _) (b _) h2
  have up : ∀ d, t0 + 1 + d ≤ k + 1 → two M (cy l (i + (t0 + 1 + d))) := by
    intro d
    induction d with
    | zero => intro _; unfold two; rw [show i + (t0 + 1 + 0) = i + t0 + 1 from by omega]; omega
    | succ d ih =>
      intro hd
      have := h1 (t0 + 1 + d) (by omega)
      rw [cy_step hn] at this
      exact two_of_absd (by omega) (ih (by omega)) (b _) this
  have down : ∀ d, d ≤ t0 → two M (cy l (i + (t0 - d))) := by
    intro d
    induction d with
    | zero => intro _; unfold two; rw [show i + (t0 - 0) = i + t0 from by omega]; omega
    | succ d ih =>
      intro hd
      have h3 := h1 (t0 - (d + 1)) (by omega)
      rw [cy_step hn, show i + (t0 - (d + 1)) + 1 = i + (t0 - d) from by omega] at h3
      exact two_of_absd' (by omega) (ih (by omega)) (b _) h3
  refine ⟨fun t ht => ?_, ?_⟩
  · by_cases h4 : t ≤ t0
    · have := down (t0 - t) (by omega)
      rwa [show t0 - (t0 - t) = t from by omega] at this
    · have := up (t - (t0 + 1)) (by omega)
      rwa [show t0 + 1 + (t - (t0 + 1)) = t from by omega] at this
  · rcases e with e | e
    · exact ⟨t0 + 1, by omega, e.2⟩
    · exact ⟨t0, by omega, e.1⟩
theorem blk_play {M : Int} (hM : 0 < M) : ∀ (d : Nat) (l : List Int), 0 < l.length → allIn l 0 M = true → ∀ i, cy (play d l) i = M → Blk M l i d
  | 0, l, hn, hb, i, h => ⟨fun t ht => by
      obtain rfl : t = 0 := by omega
      exact .inr h, 0, Nat.le_refl _, h⟩
  | d + 1, l, hn, hb, i, h => by
    rw [play_succ'] at h
    exact blk_back hM hn hb (blk_play hM d (ringStep l) (by rw [ringStep_length]; exact hn) (ringStep_allIn hb) i h)
theorem two_all {M : Int} {l : List Int} {i : Nat} (h : Blk M l i (l.length - 1)) : ∀ j, j < l.length → two M (rd l (j : Int)) := by
  intro j hj
  have hn : 0 < l.length := by omega
  have hr := Nat.mod_lt i hn
  have hd := Nat.div_add_mod i l.length
  have key : ∃ t, t ≤ l.length - 1 ∧ (i + t) % l.length = j := by
    by_cases c : i % l.length ≤ j
    · refine ⟨j - i % l.length, by omega, ?_⟩
      rw [show i + (j - i % l.length) = j + l.length * (i / l.length) from by omega, Nat.add_mul_mod_self_left, Nat.mod_eq_of_lt hj]
    · refine ⟨j + l.length - i % l.length, by omega, ?_⟩
      rw [show i + (j + l.length - i % l.length) = j + l.length + l.length * (i / l.length) from by omega, Nat.add_mul_mod_self_left, Nat.add_mod_right, Nat.mod_eq_of_lt hj]
  obtain ⟨t, ht, e⟩ := key
  have := h.1 t ht
  unfold cy at this
  rwa [e] at this
theorem down_to_two : ∀ (B : Nat) (l : List Int), 1 ≤ l.length → l.length ≤ 10 → allIn l 0 (B : Int) = true → ∃ t, t ≤ 9 * B ∧ ∃ M : Int, 0 ≤ M ∧ ∀ j, j < l.length → two M (rd (play t l) (j : Int))
  | 0, l, h1, h2, hb => ⟨0, Nat.le_refl _, 0, Int.le_refl _, fun j hj => by
      have := allIn_rd hb hj
      unfold two
      show rd l (j : Int) = 0 ∨ rd l (j : Int) = 0
      omega⟩
  | B + 1, l, h1, h2, hb => by
    by_cases h : ∃ i, cy (play (l.length - 1) l) i = ((B + 1 : Nat) : Int)
    · obtain ⟨i, hi⟩ := h
      exact ⟨0, by omega, ((B + 1 : Nat) : Int), by omega, two_all (blk_play (by omega) _ l h1 hb i hi)⟩
    · have hb2 : allIn (play (l.length - 1) l) 0 (B : Int) = true := by
        refine allIn_iff.2 fun x hx => ?_
        have h3 := allIn_iff.1 (play_allIn hb (l.length - 1)) x hx
        refine ⟨h3.1, ?_⟩
        by_cases e : x = ((B + 1 : Nat) : Int)
        · obtain ⟨j, hj, rfl⟩ := List.getElem_of_mem hx
          exact absurd ⟨j, by unfold cy; rw [Nat.mod_eq_of_lt hj, rd_get hj]; exact e⟩ h
        · omega
      obtain ⟨t, ht, M, hM, hall⟩ := down_to_two B (play (l.length - 1) l) (by rw [play_length]; exact h1) (by rw [play_length]; exact h2) hb2
      refine ⟨l.length - 1 + t, by omega, M, hM, fun j hj => ?_⟩
      rw [play_add]
      exact hall j (by rw [play_length]; exact hj)
def codeOf : List Int → Nat
  | [] => 0
  | x :: r => (if x = 0 then 0 else 1) + 2 * codeOf r
theorem codeOf_lt : ∀ l : List Int, codeOf l < 2 ^ l.length
  | [] => by simp [codeOf]
  | x :: r => by
    have := codeOf_lt r
    unfold codeOf
    rw [List.length_cons, Nat.pow_succ]
    split <;> omega
theorem codeOf_inj {M : Int} : ∀ l m : List Int, l.length = m.length → (∀ x ∈ l, two M x) → (∀ x ∈ m, two M x) → codeOf l = codeOf m → l = m
  | [], [], _, _, _, _ => rfl
  | [], _ :: _, h, _, _, _ => by simp at h
  | _ :: _, [], h, _, _, _ => by simp at h
  | x :: r, y :: q, h, h1, h2, h3 => by
    unfold codeOf at h3
    have hx := h1 x List.mem_cons_self
    have hy := h2 y List.mem_cons_self
    unfold two at hx hy
    have hl : r.length = q.length := by simpa using h
    have e : x = y ∧ codeOf r = codeOf q := by
      split at h3 <;> split at h3 <;> refine ⟨?_, ?_⟩ <;> omega
    rw [e.1, codeOf_inj r q hl (fun z hz => h1 z (List.mem_cons_of_mem _ hz)) (fun z hz => h2 z (List.mem_cons_of_mem _ hz)) e.2]
theorem two_play {M : Int} (hM : 0 ≤ M) {l : List Int} (h : ∀ x ∈ l, two M x) (n : Nat) : ∀ x ∈ play n l, two M x := by
  induction n with
  | zero => exact h
  | succ n ih =>
    intro x hx
    unfold play ringStep at hx
    obtain ⟨i, hi, rfl⟩ := List.mem_map.1 hx
    have hi := List.mem_range.1 hi
    exact two_absd hM (ih _ (rd_mem hi)) (ih _ (rd_mem (Nat.mod_lt _ (by omega))))
theorem ring_cyc {l : List Int} (h : isRing l = true) : ∃ m p, Cyc (fun n => play n l) m p ∧ m + p ≤ 10024 := by
  obtain ⟨h1, h2, h3⟩ := isRing_len h
  obtain ⟨t, ht, M, hM, hall⟩ := down_to_two 1000 l (by omega) h2 h3
  have htwo : ∀ x ∈ play t l, two M x := by
    intro x hx
    obtain ⟨j, hj, rfl⟩ := List.getElem_of_mem hx
    have := hall j (by rwa [play_length] at hj)
    rwa [rd_get hj] at this
  have hpow : 2 ^ l.length ≤ 2 ^ 10 := Nat.pow_le_pow_right (by omega) h2
  obtain ⟨i, j, hij, hj, e⟩ := pigeon 1024 (fun n => codeOf (play n (play t l))) (fun n _ => by
    have := codeOf_lt (play n (play t l))
    simp only [play_length] at this
    exact Nat.lt_of_lt_of_le this hpow)
  have e2 := codeOf_inj _ _ (by simp only [play_length]) (two_play hM htwo i) (two_play hM htwo j) e
  rw [← play_add, ← play_add] at e2
  obtain ⟨m, p, hc, hl⟩ := cyc_of_rep (fun n => play n l) (t + j) (t + i) (by omega) e2
  exact ⟨m, p, hc, by omega⟩
/-- The greatest number of n rings from u on, and of a. -/
def topF : Nat → List Int → Int → Int
  | 0, _, a => a
  | n + 1, u, a => topF n (ringStep u) (max a (lmax u))
theorem topF_ge : ∀ n u a, a ≤ topF n u a
  | 0, _, a => Int.le_refl a
  | n + 1, u, a => Int.le_trans (Int.le_max_left a (lmax u)) (topF_ge n (ringStep u) _)
theorem ring_ne {u : List Int} (h : isRing u = true) : u ≠ [] := fun e => by
  have := (isRing_len h).1
  rw [e] at this
  simp at this
theorem lmax_ring {u : List Int} (h : isRing u = true) : 0 ≤ lmax u := (allIn_iff.1 (isRing_len h).2.2 _ (lmax_mem (ring_ne h))).1
theorem topF_zero : ∀ n u, isRing u = true → allIn u 0 0 = true → topF n u 0 = 0
  | 0, _, _, _ => rfl
  | n + 1, u, h, h0 => by
    have := allIn_iff.1 h0 _ (lmax_mem (ring_ne h))
    unfold topF
    rw [show max (0 : Int) (lmax u) = 0 from by omega]
    exact topF_zero n _ (ringStep_isRing h) (ringStep_allIn h0)
theorem topF_iff {n : Nat} {u : List Int} (h : isRing u = true) (hn : 1 ≤ n) : topF n u 0 = 0 ↔ ¬ lmax u > 0 := by
  constructor
  · intro e
    obtain ⟨k, rfl⟩ : ∃ k, n = k + 1 := ⟨n - 1, by omega⟩
    unfold topF at e
    have := topF_ge k (ringStep u) (max 0 (lmax u))
    omega
  · intro e
    refine topF_zero n u h (allIn_iff.2 fun x hx => ?_)
    have h1 := allIn_iff.1 (isRing_len h).2.2 x hx
    have h2 := le_lmax hx
    omega
theorem topF_fold : ∀ (n : Nat) (u : List Int) (a : Int), ((List.range n).map (fun i => play i u)).foldl (fun a v => max a (lmax v)) a = topF n u a
  | 0, _, _ => rfl
  | n + 1, u, a => by
    rw [List.range_succ_eq_map, List.map_cons, List.foldl_cons, List.map_map]
    unfold topF
    rw [← topF_fold n (ringStep u)]
    have : ((fun i => play i u) ∘ Nat.succ) = fun i => play i (ringStep u) := funext fun i => play_succ' i u
    rw [this]
    rfl
/- ## all lists of digits, in order -/
def digsFrom (L : List (List Int)) : Int → Nat → List (List Int)
  | _, 0 => []
  | d, e + 1 => L.map (d :: ·) ++ digsFrom L (d + 1) e
def allL (most : Nat) : Nat → List (List Int)
  | 0 => [[]]
  | n + 1 => digsFrom (allL most n) 0 (most + 1)
theorem mem_digsFrom {L : List (List Int)} {y : List Int} : ∀ (e : Nat) (d : Int), y ∈ digsFrom L d e → ∃ c x, d ≤ c ∧ c < d + e ∧ x ∈ L ∧ y = c :: x
  | 0, _, h => by simp [digsFrom] at h
  | e + 1, d, h => by
    rcases List.mem_append.1 h with h | h
    · obtain ⟨x, hx, rfl⟩ := List.mem_map.1 h
      exact ⟨d, x, by omega, by omega, hx, rfl⟩
    · obtain ⟨c, x, h1, h2, h3, h4⟩ := mem_digsFrom e (d + 1) h
      exact ⟨c, x, by omega, by omega, h3, h4⟩
theorem allL_ok (most : Nat) : ∀ (n : Nat) (y : List Int), y ∈ allL most n → y.length = n ∧ allIn y 0 (most : Int) = true
  | 0, y, h => by
    obtain rfl := List.mem_singleton.1 h
    exact ⟨rfl, rfl⟩
  | n + 1, y, h => by
    obtain ⟨c, x, h1, h2, h3, rfl⟩ := mem_digsFrom _ _ h
    obtain ⟨h4, h5⟩ := allL_ok most n x h3
    refine ⟨by rw [List.length_cons, h4], allIn_iff.2 fun z hz => ?_⟩
    rcases List.mem_cons.1 hz with rfl | hz
    · omega
    · exact allIn_iff.1 h5 z hz
def bitsOf : Nat → Nat → List Int
  | 0, _ => []
  | n + 1, q => ((q % 2 : Nat) : Int) :: bitsOf n (q / 2)
theorem range_two {α : Type} (f : Nat → α) : ∀ N : Nat, ((List.range (2 * N)).map f).Perm (((List.range N).map fun q => f (2 * q)) ++ ((List.range N).map fun q => f (2 * q + 1)))
  | 0 => List.Perm.refl _
  | N + 1 => by
    rw [show 2 * (N + 1) = 2 * N + 1 + 1 from by omega, List.range_succ, List.range_succ, List.range_succ (n := N)]
    simp only [List.map_append, List.map_cons, List.map_nil, List.append_assoc]
    have ih := range_two f N
    refine (List.Perm.append_right _ ih).trans ?_
    rw [List.append_assoc]
    refine List.Perm.append_left _ ?_
    simp only [List.singleton_append]
    exact List.perm_middle
theorem bits_perm : ∀ n : Nat, ((List.range (2 ^ n)).map (bitsOf n)).Perm (allL 1 n)
  | 0 => List.Perm.refl _
  | n + 1 => by
    rw [Nat.pow_succ, Nat.mul_comm]
    refine (range_two _ _).trans ?_
    have e0 : (fun q => bitsOf (n + 1) (2 * q)) = fun q => (0 : Int) :: bitsOf n q := funext fun q => by
      show ((2 * q % 2 : Nat) : Int) :: bitsOf n (2 * q / 2) = (0 : Int) :: bitsOf n q
      rw [show 2 * q % 2 = 0 from by omega, show 2 * q / 2 = q from by omega]
      rfl
    have e1 : (fun q => bitsOf (n + 1) (2 * q + 1)) = fun q => (1 : Int) :: bitsOf n q := funext fun q => by
      show (((2 * q + 1) % 2 : Nat) : Int) :: bitsOf n ((2 * q + 1) / 2) = (1 : Int) :: bitsOf n q
      rw [show (2 * q + 1) % 2 = 1 from by omega, show (2 * q + 1) / 2 = q from by omega]
      rfl
    rw [e0, e1]
    have ih := bits_perm n
    have h0 := ih.map (fun y => (0 : Int) :: y)
    have h1 := ih.map (fun y => (1 : Int) :: y)
    rw [List.map_map] at h0 h1
    show List.Perm _ ((allL 1 n).map ((0 : Int) :: ·) ++ ((allL 1 n).map ((0 + 1 : Int) :: ·) ++ []))
    rw [List.append_nil]
    exact h0.append h1
noncomputable def leadOf (l : List Int) : Nat := open Classical in if h : isRing l = true then (ring_cyc h).choose else 0
noncomputable def perOf (l : List Int) : Nat := open Classical in if h : isRing l = true then (ring_cyc h).choose_spec.choose else 0
theorem ring_cyc' {l : List Int} (h : isRing l = true) : Cyc (fun n => play n l) (leadOf l) (perOf l) ∧ leadOf l + perOf l ≤ 10024 := by
  unfold leadOf perOf
  rw [dif_pos h, dif_pos h]
  exact (ring_cyc h).choose_spec.choose_spec
theorem digits_ring {most n : Nat} {l : List Int} (h2 : 2 ≤ n) (h10 : n ≤ 10) (hm : most ≤ 1000) (hl : l.length = n) (ha : allIn l 0 (most : Int) = true) : isRing l = true := by
  unfold isRing
  rw [allIn_mono ha (Int.le_refl 0) (show (most : Int) ≤ 1000 by omega), decide_eq_true (show (2 : Int) ≤ (l.length : Int) ∧ (l.length : Int) ≤ 10 by omega)]
  rfl
theorem bitsOf_ok : ∀ n q : Nat, (bitsOf n q).length = n ∧ allIn (bitsOf n q) 0 1 = true
  | 0, _ => ⟨rfl, rfl⟩
  | n + 1, q => by
    obtain ⟨h1, h2⟩ := bitsOf_ok n (q / 2)
    unfold bitsOf
    refine ⟨by rw [List.length_cons, h1], allIn_iff.2 fun z hz => ?_⟩
    rcases List.mem_cons.1 hz with rfl | hz
    · omega
    · exact allIn_iff.1 h2 z hz
/- ## moves of plans -/
def mvStep (jobs : List Int) (m : Int) (plan : List Int) (i : Nat) (s : Int × Int × Int) (k : Nat) : Int × Int × Int :=
  if endOf jobs m (plan.set i (k : Int)) < s.2.2 then ((i : Int), (k : Int), endOf jobs m (plan.set i (k : Int))) else s
def mvRow (jobs : List Int) (m : Int) (plan : List Int) (i k : Nat) (s : Int × Int × Int) : Int × Int × Int := (List.range' k (m.toNat - k)).foldl (mvStep jobs m plan i) s
def mvAll (jobs : List Int) (m : Int) (plan : List Int) (i : Nat) (s : Int × Int × Int) : Int × Int × Int := (List.range' i (plan.length - i)).foldl (fun s i => mvRow jobs m plan i 0 s) s
/-- The best move: the job (-1: none), the machine, the end behind it. -/
def mv (jobs : List Int) (m : Int) (plan : List Int) : Int × Int × Int := mvAll jobs m plan 0 (-1, 0, endOf jobs m plan)
theorem range'_cons {k n : Nat} (h : k < n) : List.range' k (n - k) = k :: List.range' (k + 1) (n - (k + 1)) := by
  obtain ⟨d, hd⟩ : ∃ d, n - k = d + 1 := ⟨n - k - 1, by omega⟩
  rw [hd, List.range'_succ, show n - (k + 1) = d from by omega]
theorem range'_end (n : Nat) : List.range' n (n - n) = [] := by rw [Nat.sub_self]; rfl
theorem mvRow_step {jobs plan : List Int} {m : Int} {i k : Nat} {s : Int × Int × Int} (h : k < m.toNat) : mvRow jobs m plan i k s = mvRow jobs m plan i (k + 1) (mvStep jobs m plan i s k) := by
  unfold mvRow
  rw [range'_cons h]
  rfl
theorem mvRow_end {jobs plan : List Int} {m : Int} {i : Nat} {s : Int × Int × Int} : mvRow jobs m plan i m.toNat s = s := by
  unfold mvRow
  rw [range'_end]
  rfl
theorem mvAll_step {jobs plan : List Int} {m : Int} {i : Nat} {s : Int × Int × Int} (h : i < plan.length) : mvAll jobs m plan i s = mvAll jobs m plan (i + 1) (mvRow jobs m plan i 0 s) := by
  unfold mvAll
  rw [range'_cons h]
  rfl
theorem mvAll_end {jobs plan : List Int} {m : Int} {s : Int × Int × Int} : mvAll jobs m plan plan.length s = s := by
  unfold mvAll
  rw [range'_end]
  rfl
/-- What is known of a move, of which it is said that it leads to e. -/
def MvOk (jobs : List Int) (m : Int) (plan : List Int) (s : Int × Int × Int) : Prop :=
  (s.1 = -1 ∧ s.2.1 = 0 ∧ s.2.2 = endOf jobs m plan) ∨ (0 ≤ s.1 ∧ s.1 < (plan.length : Int) ∧ 0 ≤ s.2.1 ∧ s.2.1 < m ∧ s.2.2 = endOf jobs m (plan.set s.1.toNat s.2.1) ∧ s.2.2 < endOf jobs m plan)
theorem foldl_inv {α β : Type} {f : β → α → β} {P : β → Prop} : ∀ {l : List α} {s : β}, P s → (∀ s x, x ∈ l → P s → P (f s x)) → P (l.foldl f s)
  | [], _, h, _ => h
  | x :: l, s, h, k => foldl_inv (l := l) (k s x List.mem_cons_self h) (fun s y hy hs => k s y (List.mem_cons_of_mem _ hy) hs)
theorem mv_ok (jobs : List Int) (m : Int) (plan : List Int) : MvOk jobs m plan (mv jobs m plan) := by
  refine foldl_inv (P := MvOk jobs m plan) (.inl ⟨rfl, rfl, rfl⟩) (fun s i hi hs => ?_)
  refine foldl_inv (P := MvOk jobs m plan) hs (fun s k hk hs => ?_)
  have hi' := List.mem_range'_1.1 hi
  have hk' := List.mem_range'_1.1 hk
  unfold mvStep
  split
  · rename_i hlt
    have hle : s.2.2 ≤ endOf jobs m plan := by rcases hs with ⟨_, _, h⟩ | ⟨_, _, _, _, _, h⟩ <;> omega
    exact .inr ⟨by simp only; omega, by simp only; omega, by simp only; omega, by simp only; omega, by simp, by simp only; omega⟩
  · exact hs
/-- A plan is settled by moves, with a count. -/
inductive Settles (jobs : List Int) (m : Int) : List Int → Int → List Int → Int → Prop
  | stop (p : List Int) (c : Int) : (mv jobs m p).1 < 0 → Settles jobs m p c p c
  | move (p : List Int) (c : Int) (q : List Int) (d : Int) : 0 ≤ (mv jobs m p).1 → Settles jobs m (p.set (mv jobs m p).1.toNat (mv jobs m p).2.1) (c + 1) q d → Settles jobs m p c q d
theorem settles_all {jobs : List Int} {m : Int} : ∀ (n : Nat) {p : List Int} (c : Int), Planned jobs m p → endOf jobs m p ≤ (n : Int) → ∃ q d, Settles jobs m p c q d := by
  intro n
  induction n with
  | zero =>
    intro p c hp hn
    refine ⟨p, c, .stop p c ?_⟩
    rcases mv_ok jobs m p with ⟨h, _⟩ | ⟨h1, h2, h3, h4, h5, h6⟩
    · omega
    · have := (hp.set (mv jobs m p).1.toNat h3 h4).end_bound
      omega
  | succ n ih =>
    intro p c hp hn
    rcases mv_ok jobs m p with ⟨h, _⟩ | ⟨h1, h2, h3, h4, h5, h6⟩
    · exact ⟨p, c, .stop p c (by omega)⟩
    · obtain ⟨q, d, h⟩ := ih (c + 1) (hp.set (mv jobs m p).1.toNat h3 h4) (by omega)
      exact ⟨q, d, .move p c q d h1 h⟩
theorem Settles.facts {jobs : List Int} {m : Int} {p q : List Int} {c d : Int} (h : Settles jobs m p c q d) (hp : Planned jobs m p) : Planned jobs m q ∧ c ≤ d ∧ d + endOf jobs m q ≤ c + endOf jobs m p ∧ (mv jobs m q).1 < 0 ∧ (d = c → q = p ∧ (mv jobs m p).1 < 0) ∧ (d ≠ c → 0 ≤ (mv jobs m p).1) := by
  induction h with
  | stop p c h => exact ⟨hp, by omega, by omega, h, fun _ => ⟨rfl, h⟩, fun e => absurd rfl e⟩
  | move p c q d h _ ih =>
    rcases mv_ok jobs m p with ⟨e, _⟩ | ⟨h1, h2, h3, h4, h5, h6⟩
    · omega
    · obtain ⟨i1, i2, i3, i4, i5, i6⟩ := ih (hp.set (mv jobs m p).1.toNat h3 h4)
      exact ⟨i1, by omega, by omega, i4, fun e => by omega, fun _ => h⟩
/- ## jobs that are given out -/
def giveF (jobs out lo : List Int) : List Int → List Int
  | [] => out
  | i :: t => giveF jobs (out.set i.toNat (fmin lo : Int)) (lo.set (fmin lo) (rd lo (fmin lo : Int) + rd jobs i)) t
def give (jobs : List Int) (m : Int) (order : List Int) : List Int := giveF jobs (List.replicate jobs.length 0) (List.replicate m.toNat 0) order
theorem giveF_length (order : List Int) : ∀ (jobs out lo : List Int), (giveF jobs out lo order).length = out.length := by
  induction order with
  | nil => intro jobs out lo; rfl
  | cons i t ih => intro jobs out lo; simp only [giveF]; rw [ih, List.length_set]
theorem give_length (jobs : List Int) (m : Int) (order : List Int) : (give jobs m order).length = jobs.length := by unfold give; rw [giveF_length]; simp
theorem upFrom_allIn (n : Nat) : allIn (upFrom 0 n) 0 ((n : Int) - 1) = true := by
  refine allIn_iff.2 fun x hx => ?_
  obtain ⟨i, hi, rfl⟩ := List.getElem_of_mem hx
  rw [upFrom_length] at hi
  rw [upFrom_get]
  omega
/- ## orders -/
def insAt (pre : List Int) (k : Nat) (x : Int) : List Int := pre.take k ++ x :: pre.drop k
def backTo (jobs pre : List Int) (n : Int) : Nat → Nat
  | 0 => 0
  | k + 1 => if rd jobs (rd pre (k : Int)) < n then backTo jobs pre n k else k + 1
def orderF (jobs : List Int) : Nat → List Int
  | 0 => []
  | i + 1 => insAt (orderF jobs i) (backTo jobs (orderF jobs i) (rd jobs (i : Int)) (orderF jobs i).length) (i : Int)
def order (jobs : List Int) : List Int := orderF jobs jobs.length
theorem insAt_length (pre : List Int) (k : Nat) (x : Int) : (insAt pre k x).length = pre.length + 1 := by
  unfold insAt
  rw [List.length_append, List.length_cons, List.length_take, List.length_drop]
  omega
theorem backTo_le (jobs pre : List Int) (n : Int) (k : Nat) : backTo jobs pre n k ≤ k := by
  induction k with
  | zero => exact Nat.le_refl _
  | succ k ih => simp only [backTo]; split <;> omega
theorem mem_insAt {pre : List Int} {k : Nat} {x y : Int} : y ∈ insAt pre k x ↔ y = x ∨ y ∈ pre := by
  unfold insAt
  rw [List.mem_append, List.mem_cons]
  constructor
  · rintro (h | h | h)
    · exact .inr (List.mem_of_mem_take h)
    · exact .inl h
    · exact .inr (List.mem_of_mem_drop h)
  · rintro (h | h)
    · exact .inr (.inl h)
    · rw [← List.take_append_drop k pre, List.mem_append] at h
      rcases h with h | h
      · exact .inl h
      · exact .inr (.inr h)
theorem orderF_length (jobs : List Int) (i : Nat) : (orderF jobs i).length = i := by
  induction i with
  | zero => rfl
  | succ i ih => simp only [orderF]; rw [insAt_length, ih]
theorem orderF_mem (jobs : List Int) (i : Nat) (x : Int) : x ∈ orderF jobs i ↔ 0 ≤ x ∧ x < (i : Int) := by
  induction i with
  | zero =>
    simp only [orderF]
    constructor
    · intro h; cases h
    · intro h; omega
  | succ i ih => simp only [orderF]; rw [mem_insAt, ih]; omega
theorem orderF_allIn (jobs : List Int) (i : Nat) : allIn (orderF jobs i) 0 ((i : Int) - 1) = true :=
  allIn_iff.2 fun x hx => by have := (orderF_mem jobs i x).1 hx; omega
/-- Two lists that are swapped at the end of the first. -/
theorem swap_last (A : List Int) (p x : Int) (C : List Int) : ((A ++ p :: x :: C).set (A.length + 1) p).set A.length x = A ++ x :: p :: C := by
  induction A with
  | nil => rfl
  | cons a A ih => simp only [List.cons_append, List.length_cons, List.set_cons_succ, ih]
/- sorted lists -/
def insD (key : Int → Int) (x : Int) : List Int → List Int
  | [] => [x]
  | y :: t => if key x ≤ key y then y :: insD key x t else x :: y :: t
def Desc (key : Int → Int) (l : List Int) : Prop := l.Pairwise (fun a b => key b ≤ key a)
theorem insD_all {key : Int → Int} {x : Int} : ∀ {l : List Int}, (∀ y ∈ l, key y < key x) → insD key x l = x :: l
  | [], _ => rfl
  | y :: t, h => by
    unfold insD
    rw [if_neg (by have := h y List.mem_cons_self; omega)]
theorem insD_app {key : Int → Int} {x : Int} {b : List Int} (hb : ∀ y ∈ b, key y < key x) : ∀ {a : List Int}, (∀ y ∈ a, key x ≤ key y) → insD key x (a ++ b) = a ++ x :: b
  | [], _ => insD_all hb
  | y :: t, h => by
    rw [List.cons_append]
    simp only [insD]
    rw [if_pos (h y List.mem_cons_self), insD_app hb (fun z hz => h z (List.mem_cons_of_mem _ hz))]
    rfl
theorem mem_insD {key : Int → Int} {x y : Int} {l : List Int} : y ∈ insD key x l ↔ y = x ∨ y ∈ l := by
  induction l with
  | nil => simp [insD]
  | cons z t ih =>
    simp only [insD]
    split
    · rw [List.mem_cons, ih, List.mem_cons]
      constructor
      · rintro (h | h | h)
        · exact .inr (.inl h)
        · exact .inl h
        · exact .inr (.inr h)
      · rintro (h | h | h)
        · exact .inr (.inl h)
        · exact .inl h
        · exact .inr (.inr h)
    · rw [List.mem_cons]
theorem Desc.insD {key : Int → Int} {x : Int} {l : List Int} (h : Desc key l) : Desc key (insD key x l) := by
  unfold Desc at *
  induction l with
  | nil => simp [Base.insD]
  | cons y t ih =>
    rw [List.pairwise_cons] at h
    simp only [Base.insD]
    split
    · rename_i hxy
      rw [List.pairwise_cons]
      refine ⟨fun z hz => ?_, ih h.2⟩
      rcases mem_insD.1 hz with rfl | hz
      · exact hxy
      · exact h.1 z hz
    · rename_i hxy
      rw [List.pairwise_cons, List.pairwise_cons]
      refine ⟨fun z hz => ?_, h⟩
      rcases List.mem_cons.1 hz with rfl | hz
      · omega
      · have := h.1 z hz; omega
theorem insD_filter {key : Int → Int} {x : Int} (p : Int → Bool) : ∀ {l : List Int}, Desc key l → (insD key x l).filter p = if p x = true then insD key x (l.filter p) else l.filter p
  | [], _ => by simp only [insD, List.filter_cons, List.filter_nil]
  | y :: t, h => by
    have h' := List.pairwise_cons.1 h
    simp only [insD]
    split
    · rename_i hxy
      rw [List.filter_cons, insD_filter p h'.2, List.filter_cons]
      cases hpx : p x with
      | true =>
        simp only [if_true]
        cases hpy : p y with
        | true => simp only [if_true, insD]; rw [if_pos hxy]
        | false => simp
      | false => simp
    · rename_i hxy
      rw [List.filter_cons]
      cases hpx : p x with
      | true =>
        simp only [if_true]
        rw [insD_all]
        intro z hz
        rcases List.mem_cons.1 (List.mem_filter.1 hz).1 with rfl | hz
        · omega
        · have := h'.1 z hz; omega
      | false => simp
theorem insD_map {key : Int → Int} {x : Int} (l : List Int) : (insD key x l).map key = insD id (key x) (l.map key) := by
  induction l with
  | nil => rfl
  | cons y t ih =>
    simp only [insD, List.map_cons, id]
    split
    · rw [List.map_cons, ih]
    · rfl
theorem backTo_spec (jobs pre : List Int) (n : Int) (k : Nat) (hk : k ≤ pre.length) : (∀ j : Nat, backTo jobs pre n k ≤ j → j < k → rd jobs (rd pre (j : Int)) < n) ∧ (backTo jobs pre n k = 0 ∨ n ≤ rd jobs (rd pre ((backTo jobs pre n k - 1 : Nat) : Int))) := by
  induction k with
  | zero => exact ⟨fun j _ h => absurd h (Nat.not_lt_zero _), .inl rfl⟩
  | succ k ih =>
    simp only [backTo]
    split
    · rename_i hlt
      obtain ⟨i1, i2⟩ := ih (by omega)
      refine ⟨fun j h1 h2 => ?_, i2⟩
      by_cases e : j = k
      · subst e; exact hlt
      · exact i1 j h1 (by omega)
    · rename_i hlt
      exact ⟨fun j h1 h2 => by omega, .inr (by rw [Nat.add_sub_cancel]; omega)⟩
theorem insAt_eq {jobs pre : List Int} {x : Int} (h : Desc (rd jobs) pre) : insAt pre (backTo jobs pre (rd jobs x) pre.length) x = insD (rd jobs) x pre := by
  obtain ⟨h1, h2⟩ := backTo_spec jobs pre (rd jobs x) pre.length (Nat.le_refl _)
  have hle := backTo_le jobs pre (rd jobs x) pre.length
  generalize backTo jobs pre (rd jobs x) pre.length = k at h1 h2 hle ⊢
  unfold insAt
  rw [← insD_app (key := rd jobs) (x := x) (a := pre.take k) (b := pre.drop k), List.take_append_drop]
  · intro y hy
    obtain ⟨j, hj, rfl⟩ := List.getElem_of_mem hy
    rw [List.length_drop] at hj
    have := h1 (k + j) (by omega) (by omega)
    rwa [rd_get (l := pre) (by omega), ← List.getElem_drop (h := by rw [List.length_drop]; omega)] at this
  · intro y hy
    rcases h2 with h2 | h2
    · subst h2; simp at hy
    · obtain ⟨j, hj, rfl⟩ := List.getElem_of_mem hy
      rw [List.length_take] at hj
      rw [List.getElem_take]
      rw [rd_get (l := pre) (i := k - 1) (by omega)] at h2
      by_cases e : j = k - 1
      · subst e; exact h2
      · have := List.pairwise_iff_getElem.1 h j (k - 1) (by omega) (by omega) (by omega)
        omega
theorem orderF_desc (jobs : List Int) (i : Nat) : Desc (rd jobs) (orderF jobs i) := by
  induction i with
  | zero => exact List.Pairwise.nil
  | succ i ih => simp only [orderF]; rw [insAt_eq ih]; exact ih.insD
theorem orderF_succ (jobs : List Int) (i : Nat) : orderF jobs (i + 1) = insD (rd jobs) (i : Int) (orderF jobs i) := by
  simp only [orderF]
  exact insAt_eq (orderF_desc jobs i)
/-- The numbers of a list, the greatest first. -/
def vsort (l : List Int) : List Int := l.foldl (fun acc x => insD id x acc) []
theorem vsort_snoc (l : List Int) (x : Int) : vsort (l ++ [x]) = insD id x (vsort l) := by unfold vsort; rw [List.foldl_append]; rfl
theorem orderF_vals (jobs : List Int) (i : Nat) (hi : i ≤ jobs.length) : (orderF jobs i).map (rd jobs) = vsort (jobs.take i) := by
  induction i with
  | zero => rfl
  | succ i ih => rw [orderF_succ, insD_map, ih (by omega), take_rd (by omega), vsort_snoc]
theorem order_vals (jobs : List Int) : (order jobs).map (rd jobs) = vsort jobs := by
  unfold order
  rw [orderF_vals jobs _ (Nat.le_refl _), List.take_length]
theorem order_length (jobs : List Int) : (order jobs).length = jobs.length := orderF_length _ _
theorem order_allIn (jobs : List Int) : allIn (order jobs) 0 ((jobs.length : Int) - 1) = true := orderF_allIn _ _
/-- The jobs of one machine, in their order. -/
def ownJobs (m : Int) : List Int → List Int → List Int
  | p :: ps, j :: js => if p = m then j :: ownJobs m ps js else ownJobs m ps js
  | _, _ => []
theorem ownJobs_snoc (m p j : Int) : ∀ (ps js : List Int), ps.length = js.length → ownJobs m (ps ++ [p]) (js ++ [j]) = ownJobs m ps js ++ (if p = m then [j] else [])
  | [], [], _ => by simp only [List.nil_append, ownJobs]
  | [], _ :: _, h => by simp at h
  | _ :: _, [], h => by simp at h
  | q :: ps, k :: js, h => by
    simp only [List.cons_append, ownJobs]
    rw [ownJobs_snoc m p j ps js (by simpa using h)]
    split <;> rfl
theorem own_vals (jobs plan : List Int) (m : Int) (h : plan.length = jobs.length) (i : Nat) (hi : i ≤ jobs.length) :
    ((orderF jobs i).filter (fun x => decide (rd plan x = m))).map (rd jobs) = vsort (ownJobs m (plan.take i) (jobs.take i)) := by
  induction i with
  | zero => rfl
  | succ i ih =>
    rw [orderF_succ, insD_filter _ (orderF_desc jobs i), take_rd (l := plan) (by omega), take_rd (l := jobs) (by omega), ownJobs_snoc _ _ _ _ _ (by rw [List.length_take, List.length_take]; omega)]
    by_cases e : rd plan (i : Int) = m
    · rw [if_pos (decide_eq_true e), if_pos e, insD_map, ih (by omega), vsort_snoc]
    · rw [if_neg (by simpa using e), if_neg e, ih (by omega), List.append_nil]
/-- Each number times its place, counted from c + 1. -/
def wsumF (c : Int) : List Int → Int
  | [] => 0
  | x :: t => x * (c + 1) + wsumF (c + 1) t
theorem wsumF_snoc (l : List Int) : ∀ (c x : Int), wsumF c (l ++ [x]) = wsumF c l + x * (c + l.length + 1) := by
  induction l with
  | nil => intro c x; simp [wsumF]
  | cons y t ih =>
    intro c x
    rw [List.cons_append]
    simp only [wsumF]
    rw [ih, List.length_cons, Int.natCast_succ, show c + 1 + (t.length : Int) + 1 = c + ((t.length : Int) + 1) + 1 from by omega]
    omega
theorem vsort_length (l : List Int) : (vsort l).length = l.length := by
  have : ∀ (l acc : List Int), (l.foldl (fun acc x => insD id x acc) acc).length = acc.length + l.length := by
    intro l
    induction l with
    | nil => intro acc; rfl
    | cons x t ih =>
      intro acc
      rw [List.foldl_cons, ih, List.length_cons]
      have : (insD id x acc).length = acc.length + 1 := by
        induction acc with
        | nil => rfl
        | cons y s jh => simp only [insD]; split <;> simp [jh]
      omega
  unfold vsort
  rw [this]
  simp
/-- A sum over machines, from 0 up to n. -/
def overM (f : Int → Int) : Nat → Int
  | 0 => 0
  | n + 1 => overM f n + f (n : Int)
theorem overM_congr {f g : Int → Int} {n : Nat} (h : ∀ i : Nat, i < n → f (i : Int) = g (i : Int)) : overM f n = overM g n := by
  induction n with
  | zero => rfl
  | succ n ih => simp only [overM]; rw [ih (fun i hi => h i (by omega)), h n (by omega)]
theorem overM_bump {f g : Int → Int} {n : Nat} {p : Nat} {d : Int} (hp : p < n) (h : ∀ i : Nat, i < n → i ≠ p → f (i : Int) = g (i : Int)) (hd : f (p : Int) = g (p : Int) + d) : overM f n = overM g n + d := by
  induction n with
  | zero => omega
  | succ n ih =>
    simp only [overM]
    by_cases e : p = n
    · subst e
      rw [overM_congr (fun i hi => h i (by omega) (by omega)), hd]
      omega
    · rw [ih (by omega) (fun i hi => h i (by omega)), h n (by omega) (fun e' => e e'.symm)]
      omega
theorem overM_zero {n : Nat} : overM (fun _ => 0) n = 0 := by
  induction n with
  | zero => rfl
  | succ n ih => simp only [overM]; rw [ih]; rfl
/-- The sum of ends of a plan. -/
def sumEnds (jobs : List Int) (m : Int) (plan : List Int) : Int := overM (fun k => wsumF 0 (vsort (ownJobs k plan jobs))) m.toNat
/-- The least sum of ends: jobs, the longest first, in turn. -/
def leastF (m : Int) (i : Nat) : List Int → Int
  | [] => 0
  | x :: t => x * ((i : Int) / m + 1) + leastF m (i + 1) t
/- ## packing -/
inductive Put (j : Int) : List Int → List Int → Prop
  | here {r : Int} {rs : List Int} : j ≤ r → Put j (r :: rs) ((r - j) :: rs)
  | there {r : Int} {rs rs' : List Int} : Put j rs rs' → Put j (r :: rs) (r :: rs')
/-- Jobs fit into machines with so much room each. -/
def Pack : List Int → List Int → Prop
  | [], _ => True
  | j :: js, room => ∃ room', Put j room room' ∧ Pack js room'
theorem Put.perm {j : Int} {a b : List Int} (h : a.Perm b) : ∀ {a'}, Put j a a' → ∃ b', Put j b b' ∧ a'.Perm b' := by
  induction h with
  | nil => intro a' h; cases h
  | cons x _ ih =>
    intro a' h
    cases h with
    | here hj => exact ⟨_, .here hj, List.Perm.cons _ (by assumption)⟩
    | there h2 =>
      obtain ⟨b', h3, h4⟩ := ih h2
      exact ⟨_, .there h3, h4.cons _⟩
  | swap x y l =>
    intro a' h
    cases h with
    | here hj => exact ⟨_, .there (.here hj), List.Perm.swap _ _ _⟩
    | there h2 =>
      cases h2 with
      | here hj => exact ⟨_, .here hj, List.Perm.swap _ _ _⟩
      | there h3 => exact ⟨_, .there (.there h3), List.Perm.swap _ _ _⟩
  | trans _ _ ih1 ih2 =>
    intro a' h
    obtain ⟨b', h1, h2⟩ := ih1 h
    obtain ⟨c', h3, h4⟩ := ih2 h1
    exact ⟨c', h3, h2.trans h4⟩
theorem Pack.perm_room : ∀ {js a b : List Int}, a.Perm b → Pack js a → Pack js b
  | [], _, _, _, _ => trivial
  | j :: js, a, b, h, hp => by
    obtain ⟨a', h1, h2⟩ := hp
    obtain ⟨b', h3, h4⟩ := h1.perm h
    exact ⟨b', h3, h2.perm_room h4⟩
theorem Put.comm {a b : Int} (ha : 0 ≤ a) (hb : 0 ≤ b) {x y z : List Int} (h1 : Put a x y) : Put b y z → ∃ y', Put b x y' ∧ Put a y' z := by
  induction h1 generalizing z with
  | here hj =>
    intro h2
    cases h2 with
    | here hk =>
      rename_i r rs
      refine ⟨_, .here (by omega), ?_⟩
      rw [show r - a - b = r - b - a from by omega]
      exact .here (by omega)
    | there hk => exact ⟨_, .there hk, .here hj⟩
  | there h ih =>
    intro h2
    cases h2 with
    | here hk => exact ⟨_, .here hk, .there h⟩
    | there hk =>
      obtain ⟨y', h3, h4⟩ := ih hk
      exact ⟨_, .there h3, .there h4⟩
theorem Pack.perm_jobs {js ks : List Int} (h : js.Perm ks) : (∀ x ∈ js, 0 ≤ x) → ∀ {room}, Pack js room → Pack ks room := by
  induction h with
  | nil => intro _ room hp; exact hp
  | cons x _ ih =>
    intro h0 room hp
    obtain ⟨r', h1, h2⟩ := hp
    exact ⟨r', h1, ih (fun y hy => h0 y (List.mem_cons_of_mem _ hy)) h2⟩
  | swap x y l =>
    intro h0 room hp
    obtain ⟨r1, h1, r2, h2, h3⟩ := hp
    obtain ⟨y', h4, h5⟩ := Put.comm (h0 y (by simp)) (h0 x (by simp)) h1 h2
    exact ⟨y', h4, r2, h5, h3⟩
  | trans p1 _ ih1 ih2 =>
    intro h0 room hp
    exact ih2 (fun y hy => h0 y (p1.mem_iff.2 hy)) (ih1 h0 hp)
theorem Put.at {j : Int} : ∀ {room : List Int} {i : Nat} (h : i < room.length), j ≤ room[i] → Put j room (room.set i (room[i] - j))
  | [], _, h, _ => by simp at h
  | r :: rs, 0, _, hj => .here hj
  | r :: rs, i + 1, h, hj => .there (Put.at (room := rs) (i := i) (by simpa using h) (by simpa using hj))
theorem Put.get {j : Int} {room room' : List Int} (h : Put j room room') : ∃ i, ∃ (hi : i < room.length), j ≤ room[i] ∧ room' = room.set i (room[i] - j) := by
  induction h with
  | here hj => exact ⟨0, by simp, by simpa using hj, rfl⟩
  | there _ ih =>
    obtain ⟨i, hi, h1, h2⟩ := ih
    exact ⟨i + 1, by simpa using hi, by simpa using h1, by simp [h2]⟩
theorem set_perm {l : List Int} {i k : Nat} (hi : i < l.length) (hk : k < l.length) (e : l[i] = l[k]) (x : Int) : (l.set i x).Perm (l.set k x) := by
  have h : ∀ (l : List Int) (i : Nat) (h : i < l.length) (x : Int), (l[i] :: l.set i x).Perm (x :: l) := by
    intro l
    induction l with
    | nil => intro i h; simp at h
    | cons y t ih =>
      intro i h x
      cases i with
      | zero => exact List.Perm.swap _ _ _
      | succ i =>
        have := ih i (by simpa using h) x
        simp only [List.getElem_cons_succ, List.set_cons_succ]
        exact (List.Perm.swap _ _ _).trans ((this.cons y).trans (List.Perm.swap _ _ _))
  have h1 := h l i hi x
  have h2 := h l k hk x
  rw [← e] at h2
  exact (h1.trans h2.symm).cons_inv
theorem Pack.more : ∀ {js room : List Int} (r : Int), Pack js room → Pack js (r :: room)
  | [], _, _, _ => trivial
  | j :: js, room, r, hp => by
    obtain ⟨room', h1, h2⟩ := hp
    exact ⟨_, .there h1, Pack.more r h2⟩
/- sets of jobs: the bits of a whole number -/
def subL : Nat → List Int → List Int
  | _, [] => []
  | S, j :: l => if S % 2 = 1 then j :: subL (S / 2) l else subL (S / 2) l
def sumS : Nat → List Int → Int
  | _, [] => 0
  | S, j :: l => (if S % 2 = 1 then j else 0) + sumS (S / 2) l
def SubN : Nat → Nat → Nat → Prop
  | 0, T, _ => T = 0
  | n + 1, T, S => T % 2 ≤ S % 2 ∧ SubN n (T / 2) (S / 2)
theorem SubN.le : ∀ {n T S : Nat}, SubN n T S → T ≤ S
  | 0, T, S, h => by unfold SubN at h; omega
  | n + 1, T, S, h => by
    have := SubN.le h.2
    have := h.1
    omega
theorem subN_zero : ∀ (n S : Nat), SubN n 0 S
  | 0, _ => rfl
  | n + 1, S => ⟨by simp, by simpa using subN_zero n (S / 2)⟩
theorem subN_self : ∀ {n S : Nat}, S < 2 ^ n → SubN n S S
  | 0, S, h => by simp at h; exact h
  | n + 1, S, h => ⟨Nat.le_refl _, subN_self (by rw [Nat.pow_succ] at h; omega)⟩
theorem sub_lt {n T S : Nat} (h : SubN n T S) (hS : S < 2 ^ n) : T < 2 ^ n := Nat.lt_of_le_of_lt h.le hS
theorem pack_first : ∀ (l : List Int) (S : Nat) (r : Int) (rs : List Int), 0 ≤ r → Pack (subL S l) (r :: rs) → ∃ T, SubN l.length T S ∧ sumS T l ≤ r ∧ Pack (subL (S - T) l) rs
  | [], S, r, rs, hr, _ => ⟨0, rfl, hr, trivial⟩
  | j :: l, S, r, rs, hr, hp => by
    unfold subL at hp
    by_cases c : S % 2 = 1
    · rw [if_pos c] at hp
      obtain ⟨room', h1, h2⟩ := hp
      cases h1 with
      | here hj =>
        obtain ⟨T, h3, h4, h5⟩ := pack_first l (S / 2) (r - j) rs (by omega) h2
        refine ⟨2 * T + 1, ⟨by omega, by rw [show (2 * T + 1) / 2 = T from by omega]; exact h3⟩, ?_, ?_⟩
        · unfold sumS
          rw [if_pos (by omega), show (2 * T + 1) / 2 = T from by omega]
          omega
        · have := h3.le
          unfold subL
          rw [if_neg (by omega), show (S - (2 * T + 1)) / 2 = S / 2 - T from by omega]
          exact h5
      | there hk =>
        obtain ⟨T, h3, h4, h5⟩ := pack_first l (S / 2) r _ hr h2
        refine ⟨2 * T, ⟨by omega, by rw [show (2 * T) / 2 = T from by omega]; exact h3⟩, ?_, ?_⟩
        · unfold sumS
          rw [if_neg (by omega), show (2 * T) / 2 = T from by omega]
          omega
        · have := h3.le
          unfold subL
          rw [if_pos (by omega), show (S - 2 * T) / 2 = S / 2 - T from by omega]
          exact ⟨_, hk, h5⟩
    · rw [if_neg c] at hp
      obtain ⟨T, h3, h4, h5⟩ := pack_first l (S / 2) r rs hr hp
      refine ⟨2 * T, ⟨by omega, by rw [show (2 * T) / 2 = T from by omega]; exact h3⟩, ?_, ?_⟩
      · unfold sumS
        rw [if_neg (by omega), show (2 * T) / 2 = T from by omega]
        omega
      · have := h3.le
        unfold subL
        rw [if_neg (by omega), show (S - 2 * T) / 2 = S / 2 - T from by omega]
        exact h5
theorem sumS_nonneg : ∀ (l : List Int) (T : Nat), (∀ x ∈ l, 0 ≤ x) → 0 ≤ sumS T l
  | [], _, _ => Int.le_refl 0
  | j :: l, T, h => by
    have h1 := h j List.mem_cons_self
    have h2 := sumS_nonneg l (T / 2) (fun x hx => h x (List.mem_cons_of_mem _ hx))
    unfold sumS
    split <;> omega
theorem pack_back : ∀ (l : List Int) (S T : Nat) (r : Int) (rs : List Int), (∀ x ∈ l, 0 ≤ x) → SubN l.length T S → sumS T l ≤ r → Pack (subL (S - T) l) rs → Pack (subL S l) (r :: rs)
  | [], _, _, _, _, _, _, _, _ => trivial
  | j :: l, S, T, r, rs, h0, hs, hl, hp => by
    have hle := hs.2.le
    have h1 := hs.1
    have hn := sumS_nonneg l (T / 2) (fun x hx => h0 x (List.mem_cons_of_mem _ hx))
    unfold sumS at hl
    unfold subL at hp ⊢
    by_cases c : S % 2 = 1
    · rw [if_pos c]
      by_cases d : T % 2 = 1
      · rw [if_pos d] at hl
        rw [if_neg (by omega), show (S - T) / 2 = S / 2 - T / 2 from by omega] at hp
        exact ⟨_, .here (by omega), pack_back l (S / 2) (T / 2) (r - j) rs (fun x hx => h0 x (List.mem_cons_of_mem _ hx)) hs.2 (by omega) hp⟩
      · rw [if_neg d] at hl
        rw [if_pos (by omega), show (S - T) / 2 = S / 2 - T / 2 from by omega] at hp
        obtain ⟨room', h3, h4⟩ := hp
        exact ⟨_, .there h3, pack_back l (S / 2) (T / 2) r _ (fun x hx => h0 x (List.mem_cons_of_mem _ hx)) hs.2 (by omega) h4⟩
    · rw [if_neg c]
      rw [if_neg (by omega)] at hl
      rw [if_neg (by omega), show (S - T) / 2 = S / 2 - T / 2 from by omega] at hp
      exact pack_back l (S / 2) (T / 2) r rs (fun x hx => h0 x (List.mem_cons_of_mem _ hx)) hs.2 (by omega) hp
/-- A set of jobs fits into k machines of E each. -/
def PackS (jobs : List Int) (E : Int) (k S : Nat) : Prop := Pack (subL S jobs) (List.replicate k E)
theorem packS_succ {jobs : List Int} {E : Int} (h0 : ∀ x ∈ jobs, 0 ≤ x) (hE : 0 ≤ E) (k S : Nat) : PackS jobs E (k + 1) S ↔ ∃ T, SubN jobs.length T S ∧ sumS T jobs ≤ E ∧ PackS jobs E k (S - T) := by
  unfold PackS
  rw [List.replicate_succ]
  exact ⟨fun h => pack_first jobs S E _ hE h, fun ⟨T, h1, h2, h3⟩ => pack_back jobs S T E _ h0 h1 h2 h3⟩
theorem packS_mono {jobs : List Int} {E : Int} {k S : Nat} (h : PackS jobs E k S) : ∀ m, PackS jobs E (k + m) S
  | 0 => h
  | m + 1 => by
    have := Pack.more E (packS_mono h m)
    unfold PackS
    rw [show k + (m + 1) = k + m + 1 from by omega, List.replicate_succ]
    exact this
theorem packS_zero : ∀ {jobs : List Int} {E : Int} {S : Nat}, S < 2 ^ jobs.length → (PackS jobs E 0 S ↔ S = 0)
  | [], E, S, h => by
    simp at h
    subst h
    exact ⟨fun _ => rfl, fun _ => trivial⟩
  | j :: l, E, S, h => by
    have h' : S / 2 < 2 ^ l.length := by rw [List.length_cons, Nat.pow_succ] at h; omega
    have ih := packS_zero (jobs := l) (E := E) h'
    unfold PackS at ih ⊢
    unfold subL
    by_cases c : S % 2 = 1
    · rw [if_pos c]
      constructor
      · rintro ⟨_, h1, _⟩
        simp only [List.replicate_zero] at h1
        cases h1
      · intro e
        subst e
        simp at c
    · rw [if_neg c, ih]
      omega
theorem pack_each : ∀ (l : List Int) {E : Int}, (∀ x ∈ l, x ≤ E) → Pack l (List.replicate l.length E)
  | [], _, _ => trivial
  | j :: l, E, h => ⟨_, .here (h j List.mem_cons_self), Pack.more _ (pack_each l (fun x hx => h x (List.mem_cons_of_mem _ hx)))⟩
theorem subL_mem : ∀ {l : List Int} {S : Nat} {x : Int}, x ∈ subL S l → x ∈ l
  | [], _, _, h => by simp [subL] at h
  | j :: l, S, x, h => by
    unfold subL at h
    split at h
    · rcases List.mem_cons.1 h with rfl | h
      · exact List.mem_cons_self
      · exact List.mem_cons_of_mem _ (subL_mem h)
    · exact List.mem_cons_of_mem _ (subL_mem h)
theorem subL_length : ∀ (l : List Int) (S : Nat), (subL S l).length ≤ l.length
  | [], _ => Nat.le_refl _
  | j :: l, S => by
    have := subL_length l (S / 2)
    unfold subL
    split <;> simp <;> omega
theorem subL_full : ∀ l : List Int, subL (2 ^ l.length - 1) l = l
  | [] => rfl
  | j :: l => by
    have h1 : 1 ≤ 2 ^ l.length := Nat.pow_pos (by decide)
    unfold subL
    rw [List.length_cons, Nat.pow_succ, if_pos (by omega), show (2 ^ l.length * 2 - 1) / 2 = 2 ^ l.length - 1 from by omega, subL_full l]
theorem packS_all {jobs : List Int} {E : Int} (h : ∀ x ∈ jobs, x ≤ E) (S : Nat) : PackS jobs E jobs.length S := by
  have := pack_each (subL S jobs) (E := E) (fun x hx => h x (subL_mem hx))
  have hl := subL_length jobs S
  have h2 := packS_mono (jobs := jobs) (E := E) (k := (subL S jobs).length) (S := S) this (jobs.length - (subL S jobs).length)
  rwa [show (subL S jobs).length + (jobs.length - (subL S jobs).length) = jobs.length from by omega] at h2
/-- k is how few machines the set needs. -/
def Need (jobs : List Int) (E : Int) (k S : Nat) : Prop := PackS jobs E k S ∧ ∀ k', k' < k → ¬ PackS jobs E k' S
theorem need_ex {jobs : List Int} {E : Int} {S : Nat} : ∀ m, PackS jobs E m S → ∃ k, k ≤ m ∧ Need jobs E k S := by
  intro m
  induction m using Nat.strongRecOn with
  | _ m ih =>
    intro h
    by_cases c : ∃ k', k' < m ∧ PackS jobs E k' S
    · obtain ⟨k', h1, h2⟩ := c
      obtain ⟨k, h3, h4⟩ := ih k' h1 h2
      exact ⟨k, by omega, h4⟩
    · exact ⟨m, Nat.le_refl _, h, fun k' hk hp => c ⟨k', hk, hp⟩⟩
theorem Need.le {jobs : List Int} {E : Int} {k m S : Nat} (h : Need jobs E k S) (hp : PackS jobs E m S) : k ≤ m := by
  by_cases c : m < k
  · exact absurd hp (h.2 m c)
  · omega
theorem Need.part {jobs : List Int} {E : Int} (h0 : ∀ x ∈ jobs, 0 ≤ x) (hE : 0 ≤ E) {k S : Nat} (h : Need jobs E (k + 1) S) : ∃ T, SubN jobs.length T S ∧ T ≠ 0 ∧ sumS T jobs ≤ E ∧ Need jobs E k (S - T) := by
  obtain ⟨T, h1, h2, h3⟩ := (packS_succ h0 hE k S).1 h.1
  refine ⟨T, h1, fun e => ?_, h2, h3, fun k' hk hp => ?_⟩
  · subst e
    exact h.2 k (by omega) (by simpa using h3)
  · exact h.2 (k' + 1) (by omega) ((packS_succ h0 hE k' S).2 ⟨T, h1, h2, hp⟩)
/- the bits -/
theorem and_sub : ∀ {n P S : Nat}, SubN n P S → 0 < P → SubN n ((P - 1) &&& S) S ∧ (P - 1) &&& S < P ∧ ∀ T, SubN n T S → T < P → T ≤ (P - 1) &&& S
  | 0, P, S, h, hp => by unfold SubN at h; omega
  | n + 1, P, S, h, hp => by
    have e1 : ((P - 1) &&& S) / 2 = ((P - 1) / 2) &&& (S / 2) := Nat.and_div_two
    have e2 : ((P - 1) &&& S) % 2 = 1 ↔ (P - 1) % 2 = 1 ∧ S % 2 = 1 := Nat.and_mod_two_eq_one
    have h1 := h.1
    generalize (P - 1) &&& S = q at e1 e2 ⊢
    by_cases c : P % 2 = 1
    · -- the last bit goes
      have hpp : (P - 1) / 2 = P / 2 := by omega
      have hand : P / 2 &&& S / 2 = P / 2 := by
        have : ∀ {n P S : Nat}, SubN n P S → P &&& S = P := by
          intro n
          induction n with
          | zero => intro P S h; unfold SubN at h; subst h; simp
          | succ n ih =>
            intro P S h
            have a1 : (P &&& S) / 2 = P / 2 &&& S / 2 := Nat.and_div_two
            have a2 : (P &&& S) % 2 = 1 ↔ P % 2 = 1 ∧ S % 2 = 1 := Nat.and_mod_two_eq_one
            rw [ih h.2] at a1
            have := h.1
            omega
        exact this h.2
      rw [hpp, hand] at e1
      have q2 : q = 2 * (P / 2) := by omega
      refine ⟨⟨by omega, by rw [e1]; exact h.2⟩, by omega, fun T hT hlt => by omega⟩
    · have hpp : (P - 1) / 2 = P / 2 - 1 := by omega
      rw [hpp] at e1
      obtain ⟨i1, i2, i3⟩ := and_sub h.2 (by omega)
      refine ⟨⟨by omega, by rw [e1]; exact i1⟩, by omega, fun T hT hlt => ?_⟩
      have i4 := i3 (T / 2) hT.2 (by omega)
      have := hT.1
      omega
theorem andNot_sub : ∀ {n T S : Nat} (N : Nat), SubN n T S → n ≤ N → S < 2 ^ N → S &&& (2 ^ N - 1 - T) = S - T
  | 0, T, S, N, h, _, hS => by
    unfold SubN at h
    subst h
    rw [Nat.sub_zero, Nat.and_two_pow_sub_one_eq_mod, Nat.mod_eq_of_lt hS]
    rfl
  | n + 1, T, S, 0, h, hN, _ => by omega
  | n + 1, T, S, N + 1, h, hN, hS => by
    have hp : 1 ≤ 2 ^ N := Nat.pow_pos (by decide)
    rw [Nat.pow_succ] at hS ⊢
    have e1 : (S &&& (2 ^ N * 2 - 1 - T)) / 2 = (S / 2) &&& ((2 ^ N * 2 - 1 - T) / 2) := Nat.and_div_two
    have e2 : (S &&& (2 ^ N * 2 - 1 - T)) % 2 = 1 ↔ S % 2 = 1 ∧ (2 ^ N * 2 - 1 - T) % 2 = 1 := Nat.and_mod_two_eq_one
    have hle := h.2.le
    have h1 := h.1
    have ih := andNot_sub N h.2 (by omega) (show S / 2 < 2 ^ N by omega)
    rw [show (2 ^ N * 2 - 1 - T) / 2 = 2 ^ N - 1 - T / 2 from by omega, ih] at e1
    generalize S &&& (2 ^ N * 2 - 1 - T) = q at e1 e2 ⊢
    omega
theorem vsort_perm (l : List Int) : (vsort l).Perm l := by
  have ins : ∀ (x : Int) (l : List Int), (insD id x l).Perm (x :: l) := by
    intro x l
    induction l with
    | nil => exact List.Perm.refl _
    | cons y t ih =>
      unfold insD
      split
      · exact (ih.cons y).trans (List.Perm.swap _ _ _)
      · exact List.Perm.refl _
  have : ∀ (l acc : List Int), (l.foldl (fun acc x => insD id x acc) acc).Perm (l ++ acc) := by
    intro l
    induction l with
    | nil => intro acc; exact List.Perm.refl _
    | cons x t ih =>
      intro acc
      rw [List.foldl_cons]
      refine (ih _).trans ?_
      exact (List.Perm.append_left t (ins x acc)).trans List.perm_middle
  have h := this l []
  rwa [List.append_nil] at h
end Go.Proofs.YtdiobgmdmeomjaaDoor.Base
