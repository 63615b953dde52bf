import Derived.Test.YtoigcbdblooboaaWMore
/- Plain laws of lists and whole numbers, for the pure statements of this seat. -/
namespace Go.Proofs.Ytoigcbdblooboaa.Base
open Go.RowKit Go.Proofs.YtoigcbdblooboaaW.PrintWords Go.Proofs.YtoigcbdblooboaaW.PrintLast Go.Proofs.YtoigcbdblooboaaW.PrintMore

theorem wrap_id {x : Int} (h0 : -9223372036854775808 ≤ x) (h1 : x ≤ 9223372036854775807) : wrap64 x = x := by
  unfold wrap64
  omega
theorem wrap_succ {i n : Nat} (h : i < n) (hn : n ≤ 4611686018427387904) : wrap64 ((i : Int) + 1) = ((i + 1 : Nat) : Int) := by
  unfold wrap64
  omega
theorem rd_get {l : List Int} {i : Nat} (h : i < l.length) : rd l (i : Int) = l[i] := by
  unfold rd
  rw [Int.toNat_natCast, List.getD_eq_getElem?_getD, List.getElem?_eq_getElem h]
  rfl
theorem rd_mem {l : List Int} {i : Nat} (h : i < l.length) : rd l (i : Int) ∈ l := by
  rw [rd_get h]
  exact List.getElem_mem h
theorem drop_rd {l : List Int} {i : Nat} (h : i < l.length) : l.drop i = rd l (i : Int) :: l.drop (i + 1) := by
  rw [rd_get h]
  exact List.drop_eq_getElem_cons h
theorem take_rd {l : List Int} {i : Nat} (h : i < l.length) : l.take (i + 1) = l.take i ++ [rd l (i : Int)] := by
  rw [rd_get h]
  exact List.take_succ_eq_append_getElem h
theorem rd_mid (a : List Int) (x : Int) (b : List Int) : rd (a ++ x :: b) (a.length : Int) = x := by
  rw [rd_get (by simp)]
  simp
/-- A loop that counts from i up to n: F i s is what it comes to from round i on, with s. -/
theorem range {α σ : Type} {n : Nat} (G : σ → Int → Nat → Option α) (F : Nat → σ → α) (Inv : Nat → σ → Prop)
    (hend : ∀ s, Inv n s → Ev (G s (n : Int)) (F n s))
    (hstep : ∀ (i : Nat) s, i < n → Inv i s → (∀ s', Inv (i + 1) s' → Ev (G s' ((i + 1 : Nat) : Int)) (F (i + 1) s')) → Ev (G s (i : Int)) (F i s)) :
    ∀ (i : Nat) s, i ≤ n → Inv i s → Ev (G s (i : Int)) (F i s) := by
  intro i s hi
  obtain ⟨d, hd⟩ : ∃ d, n - i = d := ⟨_, rfl⟩
  induction d generalizing i s with
  | zero =>
    intro h
    obtain rfl : i = n := by omega
    exact hend s h
  | succ d ih =>
    intro h
    exact hstep i s (by omega) h (fun s' h' => ih (i + 1) s' (by omega) (by omega) h')
theorem Ev.det {α : Type} {g : Nat → Option α} {a b : α} (h : Ev g a) (k : Ev g b) : a = b := by
  obtain ⟨K, h⟩ := h
  obtain ⟨L, k⟩ := k
  have h1 := h (max K L) (by omega)
  have h2 := k (max K L) (by omega)
  rw [h1] at h2
  exact Option.some.inj h2
theorem Ev.const {α : Type} {a : Option α} {r : α} (h : a = some r) : Ev (fun _ => a) r := ⟨0, fun _ _ => h⟩
theorem Ev.some_ {α β : Type} {g : Nat → β → Option α} {a : β} {r : α} (k : Ev (fun n => g n a) r) : Ev (fun n => (some a).bind (g n)) r := k
theorem Ev.pos {α : Type} {c : Prop} [Decidable c] {f g : Nat → Option α} {r : α} (h : c) (k : Ev f r) : Ev (fun n => if c then f n else g n) r := by
  obtain ⟨K, k⟩ := k
  exact ⟨K, fun n hn => (if_pos h).trans (k n hn)⟩
theorem Ev.neg {α : Type} {c : Prop} [Decidable c] {f g : Nat → Option α} {r : α} (h : ¬ c) (k : Ev g r) : Ev (fun n => if c then f n else g n) r := by
  obtain ⟨K, k⟩ := k
  exact ⟨K, fun n hn => (if_neg h).trans (k n hn)⟩
/-- One, two, three, .. from k on. -/
def upFrom (k : Int) : Nat → List Int
  | 0 => []
  | n + 1 => k :: upFrom (k + 1) n
theorem upFrom_length (k : Int) (n : Nat) : (upFrom k n).length = n := by
  induction n generalizing k with
  | zero => rfl
  | succ n ih => simp [upFrom, ih]
theorem upFrom_get (n : Nat) : ∀ (k : Int) (i : Nat) (h : i < (upFrom k n).length), (upFrom k n)[i] = k + i := by
  induction n with
  | zero => intro k i h; simp [upFrom] at h
  | succ n ih =>
    intro k i h
    cases i with
    | zero => simp [upFrom]
    | succ i =>
      simp only [upFrom, List.getElem_cons_succ]
      rw [ih]
      omega
theorem upFrom_snoc (n : Nat) : ∀ k : Int, upFrom k (n + 1) = upFrom k n ++ [k + n] := by
  induction n with
  | zero => intro k; simp [upFrom]
  | succ n ih =>
    intro k
    rw [show upFrom k (n + 1 + 1) = k :: upFrom (k + 1) (n + 1) from rfl, ih, show upFrom k (n + 1) = k :: upFrom (k + 1) n from rfl]
    simp only [List.cons_append]
    congr 3
    omega
theorem set_app {α : Type} (a : List α) (x y : α) (b : List α) : (a ++ x :: b).set a.length y = a ++ y :: b := by
  induction a with
  | nil => rfl
  | cons z a ih => simp [ih]
/-- All numbers lie between two. -/
def allIn (l : List Int) (a b : Int) : Bool := l.all fun x => decide (a ≤ x ∧ x ≤ b)
theorem allIn_iff {l : List Int} {a b : Int} : allIn l a b = true ↔ ∀ x ∈ l, a ≤ x ∧ x ≤ b := by
  unfold allIn
  rw [List.all_eq_true]
  exact ⟨fun h x hx => of_decide_eq_true (h x hx), fun h x hx => decide_eq_true (h x hx)⟩
theorem allIn_rd {l : List Int} {a b : Int} (h : allIn l a b = true) {i : Nat} (hi : i < l.length) : a ≤ rd l (i : Int) ∧ rd l (i : Int) ≤ b := allIn_iff.1 h _ (rd_mem hi)
def isRing (l : List Int) : Bool := decide ((2 : Int) ≤ (l.length : Int) ∧ (l.length : Int) ≤ 10) && allIn l 0 1000
def areJobs (l : List Int) : Bool := decide ((1 : Int) ≤ (l.length : Int) ∧ (l.length : Int) ≤ 9) && allIn l 1 1000
theorem isRing_len {l : List Int} (h : isRing l = true) : 2 ≤ l.length ∧ l.length ≤ 10 ∧ allIn l 0 1000 = true := by
  unfold isRing at h
  rw [Bool.and_eq_true] at h
  have := of_decide_eq_true h.1
  exact ⟨by omega, by omega, h.2⟩
theorem areJobs_len {l : List Int} (h : areJobs l = true) : 1 ≤ l.length ∧ l.length ≤ 9 ∧ allIn l 1 1000 = true := by
  unfold areJobs at h
  rw [Bool.and_eq_true] at h
  have := of_decide_eq_true h.1
  exact ⟨by omega, by omega, h.2⟩
end Go.Proofs.Ytoigcbdblooboaa.Base
