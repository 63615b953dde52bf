-- Written by a program of this session (wip/tool/myprint.py) over the translation. Not trusted: Lean checks it.
import Derived.Test.YtdiobgmdmeomjaaPFnExactHasRingBeforex0
import Derived.Test.YtdiobgmdmeomjaaPFnExactHasRingBeforex4
import Derived.Test.YtdiobgmdmeomjaaPFnExactHasRingBeforex5
namespace Go.Proofs.Ytdiobgmdmeomjaa.PFnExactHasRingBefore
open Go.RowKit Go.Proofs.YtdiobgmdmeomjaaW.PrintWords Go.Proofs.YtdiobgmdmeomjaaW.PrintLast Go.Proofs.YtdiobgmdmeomjaaW.PrintMore
attribute [local go_sem] max2_int min2_int max_two min_two max_three min_three max_four min_four   -- for this text's walks alone
set_option linter.unusedVariables false
set_option linter.unusedSimpArgs false

/-! ### impl_RingsBefore: function 26, by hand -/
/-- Lists in their order: what slices.Compare tells. -/
def RB.cmp : List Int → List Int → Int
  | [], [] => 0
  | [], _ :: _ => -1
  | _ :: _, [] => 1
  | x :: l, y :: m => if x < y then -1 else if x > y then 1 else RB.cmp l m
theorem RB.rd_at {l : List Int} {i : Nat} (h : i < l.length) : rd l (i : Int) = l[i] := by
  unfold rd
  rw [Int.toNat_natCast, List.getD_eq_getElem?_getD, List.getElem?_eq_getElem h]
  rfl
theorem RB.wrap_succ {i n : Nat} (h : i < n) (hn : n ≤ 9223372036854775807) : wrap64 ((i : Int) + 1) = ((i + 1 : Nat) : Int) := by
  unfold wrap64
  omega
theorem RB.cmp_l0 (l m : List Int) (hl : l.length ≤ 9223372036854775807) : ∀ (d i : Nat), i + d = l.length → ∃ k, slices_Compare_int_int.l0 k l m l (l.length : Int) (i : Int) = some (RB.cmp (l.drop i) (m.drop i)) ∨ m.length < i := by
  intro d
  induction d with
  | zero =>
    intro i hi
    refine ⟨1, ?_⟩
    by_cases hm : m.length < i
    · exact .inr hm
    · refine .inl ?_
      have hd : l.drop i = [] := List.drop_eq_nil_of_le (by omega)
      rw [slices_Compare_int_int.l0, if_neg (by omega), hd]
      by_cases h : l.length < m.length
      · rw [if_pos (by omega), List.drop_eq_getElem_cons (by omega : i < m.length)]
        rfl
      · rw [if_neg (by omega), List.drop_eq_nil_of_le (by omega : m.length ≤ i)]
        rfl
  | succ d ih =>
    intro i hi
    have hil : i < l.length := by omega
    obtain ⟨k, hk⟩ := ih (i + 1) (by omega)
    refine ⟨k + 1, ?_⟩
    by_cases hm : m.length < i
    · exact .inr hm
    · refine .inl ?_
      rw [slices_Compare_int_int.l0, if_pos (by omega), if_pos (by omega), if_pos (by omega), List.drop_eq_getElem_cons hil]
      by_cases h : (i : Int) ≥ (m.length : Int)
      · rw [if_pos h, List.drop_eq_nil_of_le (by omega : m.length ≤ i)]
        rfl
      · have him : i < m.length := by omega
        rw [if_neg h, if_pos (by omega), RB.rd_at hil, RB.rd_at him, List.drop_eq_getElem_cons him]
        have n1 : ∀ z : Int, (z != z) = false := fun z => by simp
        have hc : cmp_Compare_int.f l[i] m[i] = some (if l[i] < m[i] then -1 else if l[i] > m[i] then 1 else 0) := by
          unfold cmp_Compare_int.f cmp_isNaN_int.f
          rw [n1, n1]
          simp only [Option.bind_some, Bool.false_eq_true, if_false]
          split
          · rfl
          · split <;> rfl
        rw [hc, Option.bind_some, RB.cmp]
        by_cases c1 : l[i] < m[i]
        · rw [if_pos c1, if_pos c1, if_neg (by decide)]
        · rw [if_neg c1, if_neg c1]
          by_cases c2 : l[i] > m[i]
          · rw [if_pos c2, if_pos c2, if_neg (by decide)]
          · rw [if_neg c2, if_neg c2, if_pos rfl, RB.wrap_succ hil hl]
            rcases hk with hk | hk
            · exact hk
            · omega
theorem RB.cmp_f (l m : List Int) (hl : l.length ≤ 9223372036854775807) : ∃ k, slices_Compare_int_int.f k l m = some (RB.cmp l m) := by
  obtain ⟨k, h⟩ := RB.cmp_l0 l m hl l.length 0 (by omega)
  refine ⟨k, ?_⟩
  rcases h with h | h
  · rw [List.drop_zero, List.drop_zero] at h
    exact h
  · omega
theorem RB.eq_l0 (l m : List Int) (hl : l.length ≤ 9223372036854775807) (hm : m.length = l.length) : ∀ (d i : Nat), i + d = l.length → ∃ k, slices_Equal_int_int.l0 k l m (l.length : Int) (i : Int) = some (decide (l.drop i = m.drop i)) := by
  intro d
  induction d with
  | zero =>
    intro i hi
    refine ⟨1, ?_⟩
    rw [slices_Equal_int_int.l0, if_neg (by omega), List.drop_eq_nil_of_le (by omega : l.length ≤ i), List.drop_eq_nil_of_le (by omega : m.length ≤ i)]
    rfl
  | succ d ih =>
    intro i hi
    have hil : i < l.length := by omega
    have him : i < m.length := by omega
    obtain ⟨k, hk⟩ := ih (i + 1) (by omega)
    refine ⟨k + 1, ?_⟩
    rw [slices_Equal_int_int.l0, if_pos (by omega), if_pos (by omega), if_pos (by omega), if_pos (by omega), RB.rd_at hil, RB.rd_at him, List.drop_eq_getElem_cons hil, List.drop_eq_getElem_cons him]
    by_cases c : l[i] = m[i]
    · rw [if_pos c, RB.wrap_succ hil hl, hk, c]
      simp only [List.cons.injEq, true_and]
    · rw [if_neg c]
      simp only [List.cons.injEq, c, false_and, decide_false]
theorem RB.eq_f (l m : List Int) (hl : l.length ≤ 9223372036854775807) : ∃ k, slices_Equal_int_int.f k l m = some (decide (l = m)) := by
  by_cases h : l.length = m.length
  · obtain ⟨k, hk⟩ := RB.eq_l0 l m hl h.symm l.length 0 (by omega)
    refine ⟨k, ?_⟩
    rw [slices_Equal_int_int.f, if_pos (by omega)]
    rw [List.drop_zero, List.drop_zero] at hk
    exact hk
  · refine ⟨0, ?_⟩
    rw [slices_Equal_int_int.f, if_neg (by omega)]
    congr 1
    exact (decide_eq_false (fun e => h (by rw [e]))).symm
theorem RB.max_l0 (l : List Int) (b : Int) (hl : l.length ≤ 9223372036854775807) (hb : ∀ x ∈ l, x ≤ b) : ∀ (d i : Nat) (s : Int), i + d = l.length → s ≤ b → ∃ k r, slices_Max_int_int.l0 k l s (i : Int) = some r ∧ r ≤ b := by
  intro d
  induction d with
  | zero =>
    intro i s hi hs
    exact ⟨1, s, by rw [slices_Max_int_int.l0, if_neg (by omega)], hs⟩
  | succ d ih =>
    intro i s hi hs
    have hil : i < l.length := by omega
    have hx := hb l[i] (List.getElem_mem hil)
    obtain ⟨k, r, hk, hr⟩ := ih (i + 1) (mx s l[i]) (by omega) (by unfold mx; split <;> omega)
    refine ⟨k + 1, r, ?_, hr⟩
    rw [slices_Max_int_int.l0, if_pos (by omega), if_pos (by omega), RB.rd_at hil, RB.wrap_succ hil hl]
    exact hk
theorem RB.max_f (l : List Int) (b : Int) (hl : l.length ≤ 9223372036854775807) (hb : ∀ x ∈ l, x ≤ b) (h0 : l ≠ []) : ∃ k r, slices_Max_int_int.f k l = some r ∧ r ≤ b := by
  have hp : 0 < l.length := List.length_pos_iff.2 h0
  obtain ⟨k, r, hk, hr⟩ := RB.max_l0 l b hl hb (l.length - 1) 1 l[0] (by omega) (hb _ (List.getElem_mem hp))
  refine ⟨k, r, ?_, hr⟩
  rw [slices_Max_int_int.f, if_neg (by omega), if_pos (by omega), show rd l 0 = l[0] from RB.rd_at hp]
  exact hk
/- ## the order -/
theorem RB.cmp_self : ∀ l, RB.cmp l l = 0
  | [] => rfl
  | x :: l => by rw [RB.cmp, if_neg (by omega), if_neg (by omega), RB.cmp_self l]
theorem RB.cmp_eq : ∀ l m, RB.cmp l m = 0 → l = m
  | [], [], _ => rfl
  | [], _ :: _, h => by simp [RB.cmp] at h
  | _ :: _, [], h => by simp [RB.cmp] at h
  | x :: l, y :: m, h => by
    rw [RB.cmp] at h
    split at h
    · simp at h
    · split at h
      · simp at h
      · rw [RB.cmp_eq l m h, show x = y by omega]
theorem RB.cmp_anti : ∀ l m, RB.cmp m l = - RB.cmp l m
  | [], [] => rfl
  | [], _ :: _ => rfl
  | _ :: _, [] => rfl
  | x :: l, y :: m => by
    rw [RB.cmp, RB.cmp]
    by_cases h1 : x < y
    · rw [if_neg (by omega), if_pos (by omega), if_pos h1]; rfl
    · by_cases h2 : x > y
      · rw [if_pos (by omega), if_neg h1, if_pos h2]
      · rw [if_neg (by omega), if_neg (by omega), if_neg h1, if_neg h2, RB.cmp_anti l m]
theorem RB.cmp_trans : ∀ l m n, RB.cmp l m < 0 → RB.cmp m n < 0 → RB.cmp l n < 0
  | [], [], _, h, _ => by simp [RB.cmp] at h
  | [], _ :: _, [], _, h => by simp [RB.cmp] at h
  | [], _ :: _, _ :: _, _, _ => by simp [RB.cmp]
  | _ :: _, [], _, h, _ => by simp [RB.cmp] at h
  | _ :: _, _ :: _, [], _, h => by simp [RB.cmp] at h
  | x :: l, y :: m, z :: n, h1, h2 => by
    rw [RB.cmp] at h1 h2 ⊢
    by_cases a1 : x < y
    · by_cases a2 : y < z
      · rw [if_pos (by omega)]; decide
      · rw [if_neg a2] at h2
        by_cases a3 : y > z
        · rw [if_pos a3] at h2; simp at h2
        · rw [if_pos (by omega)]; decide
    · rw [if_neg a1] at h1
      by_cases a2 : x > y
      · rw [if_pos a2] at h1; simp at h1
      · rw [if_neg a2] at h1
        by_cases a3 : y < z
        · rw [if_pos (by omega)]; decide
        · rw [if_neg a3] at h2
          by_cases a4 : y > z
          · rw [if_pos a4] at h2; simp at h2
          · rw [if_neg a4] at h2
            rw [if_neg (by omega), if_neg (by omega)]
            exact RB.cmp_trans l m n h1 h2
theorem RB.cmp_ntrans (l m n : List Int) (h1 : ¬ RB.cmp l m < 0) (h2 : ¬ RB.cmp m n < 0) : ¬ RB.cmp l n < 0 := by
  intro h
  have a1 := RB.cmp_anti l m
  have a2 := RB.cmp_anti m n
  by_cases e1 : RB.cmp l m = 0
  · rw [RB.cmp_eq l m e1] at h; exact h2 h
  · by_cases e2 : RB.cmp m n = 0
    · rw [← RB.cmp_eq m n e2] at h; exact h1 h
    · have := RB.cmp_trans l n m h (by omega)
      exact h1 this
/-- What the rows must be for the tail to be told: none is empty, none has a number above 1000. -/
def RB.fit (xs : List (List Int)) : Bool := decide (xs.length ≤ 1048576) && xs.all fun x => decide (x ≠ []) && x.all fun n => decide (n ≤ 1000)
/-- A list set into lists that stand in order; what is there already is left. -/
def RB.ins (o : List Int) : List (List Int) → List (List Int)
  | [] => [o]
  | x :: t => if RB.cmp x o < 0 then x :: RB.ins o t else if x = o then x :: t else o :: x :: t
/-- In order, each once. -/
def RB.fin (xs : List (List Int)) : List (List Int) := xs.foldl (fun acc o => RB.ins o acc) []
def RB.Up (l : List (List Int)) : Prop := l.Pairwise (fun a b => RB.cmp a b < 0)
theorem RB.mem_ins {o z : List Int} : ∀ {l : List (List Int)}, z ∈ RB.ins o l ↔ z = o ∨ z ∈ l
  | [] => by simp [RB.ins]
  | x :: t => by
    rw [RB.ins]
    split
    · rw [List.mem_cons, RB.mem_ins, List.mem_cons]
      exact or_left_comm
    · split
      · rename_i h
        rw [List.mem_cons]
        constructor
        · intro h2; exact .inr h2
        · rintro (h2 | h2)
          · exact .inl (h2.trans h.symm)
          · exact h2
      · simp
theorem RB.ins_up {o : List Int} : ∀ {l : List (List Int)}, RB.Up l → RB.Up (RB.ins o l)
  | [], _ => by simp [RB.ins, RB.Up]
  | x :: t, h => by
    have h' := List.pairwise_cons.1 h
    rw [RB.ins]
    split
    · rename_i c
      refine List.pairwise_cons.2 ⟨fun z hz => ?_, RB.ins_up h'.2⟩
      rcases RB.mem_ins.1 hz with rfl | hz
      · exact c
      · exact h'.1 z hz
    · split
      · exact h
      · rename_i c1 c2
        have ho : RB.cmp o x < 0 := by
          have a := RB.cmp_anti o x
          by_cases e : RB.cmp o x = 0
          · exact absurd (RB.cmp_eq o x e).symm c2
          · omega
        refine List.pairwise_cons.2 ⟨fun z hz => ?_, h⟩
        rcases List.mem_cons.1 hz with rfl | hz
        · exact ho
        · exact RB.cmp_trans _ _ _ ho (h'.1 z hz)
theorem RB.fold_up (xs : List (List Int)) : ∀ acc, RB.Up acc → RB.Up (xs.foldl (fun acc o => RB.ins o acc) acc) ∧ ∀ z, z ∈ xs.foldl (fun acc o => RB.ins o acc) acc ↔ z ∈ xs ∨ z ∈ acc := by
  induction xs with
  | nil => intro acc h; exact ⟨h, fun z => by simp⟩
  | cons x t ih =>
    intro acc h
    obtain ⟨h1, h2⟩ := ih (RB.ins x acc) (RB.ins_up h)
    refine ⟨h1, fun z => ?_⟩
    rw [List.foldl_cons, h2, RB.mem_ins, List.mem_cons, or_assoc]
    exact or_left_comm
theorem RB.fin_up (xs : List (List Int)) : RB.Up (RB.fin xs) := (RB.fold_up xs [] List.Pairwise.nil).1
theorem RB.mem_fin (xs : List (List Int)) (z : List Int) : z ∈ RB.fin xs ↔ z ∈ xs := by
  have := (RB.fold_up xs [] List.Pairwise.nil).2 z
  rw [RB.fin, this]
  simp
/-- Lists in order that hold the same are one. -/
theorem RB.up_uniq : ∀ {l m : List (List Int)}, RB.Up l → RB.Up m → (∀ z, z ∈ l ↔ z ∈ m) → l = m
  | [], [], _, _, _ => rfl
  | [], y :: m, _, _, h => by have := (h y).2 (by simp); simp at this
  | x :: l, [], _, _, h => by have := (h x).1 (by simp); simp at this
  | x :: l, y :: m, hl, hm, h => by
    have hl' := List.pairwise_cons.1 hl
    have hm' := List.pairwise_cons.1 hm
    have irr : ∀ z, ¬ RB.cmp z z < 0 := fun z => by rw [RB.cmp_self]; decide
    have e : x = y := by
      rcases List.mem_cons.1 ((h x).1 (by simp)) with e | e
      · exact e
      · rcases List.mem_cons.1 ((h y).2 (by simp)) with e2 | e2
        · exact e2.symm
        · exact absurd (RB.cmp_trans _ _ _ (hl'.1 y e2) (hm'.1 x e)) (irr x)
    subst e
    refine congrArg _ (RB.up_uniq hl'.2 hm'.2 fun z => ?_)
    constructor
    · intro hz
      rcases List.mem_cons.1 ((h z).1 (by simp [hz])) with e | e
      · subst e; exact absurd (hl'.1 z hz) (irr z)
      · exact e
    · intro hz
      rcases List.mem_cons.1 ((h z).2 (by simp [hz])) with e | e
      · subst e; exact absurd (hm'.1 z hz) (irr z)
      · exact e
/- ## the rows in memory -/
/-- A place of the row; what lies out of it: the first one. -/
def RB.ix (n j : Nat) : Nat := if j < n then j else 0
theorem RB.ix_lt {n j : Nat} (h : 0 < n) : RB.ix n j < n := by unfold RB.ix; split <;> omega
theorem RB.ix_of {n j : Nat} (h : j < n) : RB.ix n j = j := if_pos h
def RB.val (w : World) (g n j : Nat) : Value := (w.cell? ⟨g, RB.ix n j, none⟩).getD (.slice none 0 0)
def RB.con (xs : List (List Int)) (j : Nat) : List Int := xs.getD (RB.ix xs.length j) []
theorem RB.con_mem {xs : List (List Int)} (h : xs ≠ []) (j : Nat) : RB.con xs j ∈ xs := by
  have hlt : RB.ix xs.length j < xs.length := RB.ix_lt (List.length_pos_iff.2 h)
  unfold RB.con
  rw [List.getD_eq_getElem?_getD, List.getElem?_eq_getElem hlt]
  exact List.getElem_mem hlt
structure RB.Row (w : World) (base g c : Nat) (xs : List (List Int)) (f : Nat → Nat) : Prop where
  pos : 0 < xs.length
  cell : ∀ j, w.cell? ⟨g, RB.ix xs.length j, none⟩ = some (RB.val w g xs.length j)
  free : ∀ j, w.frozen? ⟨g, j, none⟩ = false
  one : ∀ j, (RB.val w g xs.length j).oneCell' = true
  inner : ∀ j, Kd.R (Kd.int .i64) 3 w base (fun k => k ≠ g ∧ f k = RB.ix xs.length j) (RB.val w g xs.length j) (RB.con xs j)
  lt : g < w.heap.size
  ge : base ≤ g
  blk : ∃ cur, w.heap[g]? = some (.cells cur 22 (0, 0)) ∧ cur.size = c
  le : xs.length ≤ c
  max : c ≤ maxLen
theorem RB.row_of {w : World} {base : Nat} {A : Option Addr} {c : Nat} {xs : List (List Int)} (h : Kd.S (Kd.slice 3 (Kd.int .i64)) 22 w base (fun _ => True) (.slice A xs.length c) xs) (hne : xs ≠ []) :
    ∃ g f, A = some ⟨g, 0, none⟩ ∧ RB.Row w base g c xs f := by
  have hp : 0 < xs.length := List.length_pos_iff.2 hne
  obtain ⟨f, hR⟩ := h
  obtain ⟨inner, ho⟩ := Kd.R_own hR
  have ho2 := ho.2
  rcases ho2 with ⟨_, hz⟩ | ⟨g, cap, cur, hv, hg, hb, hnc, hcm, hcs, _⟩
  · rw [List.length_zipIdx] at hz; omega
  · injection hv with hA _ hc
    subst hA
    subst hc
    have key : ∀ j, ∃ u, w.cell? ⟨g, RB.ix xs.length j, none⟩ = some u ∧ w.frozen? ⟨g, RB.ix xs.length j, none⟩ = false ∧ u.oneCell' = true ∧ Kd.R (Kd.int .i64) 3 w base (fun k => k ≠ g ∧ f k = RB.ix xs.length j) u (RB.con xs j) := by
      intro j
      have hi := RB.ix_lt (j := j) hp
      obtain ⟨cs, hl, hM, hcell, hfr⟩ := Kd.R_elem hR ([], 0) (RB.ix xs.length j : Int) (by omega) (by omega)
      rw [Int.toNat_natCast] at hM hcell hfr
      have hz : xs.zipIdx.getD (RB.ix xs.length j) ([], 0) = (RB.con xs j, RB.ix xs.length j) := by
        rw [List.getD_eq_getElem?_getD, Kd.zip_at (List.getElem?_eq_getElem hi)]
        unfold RB.con
        rw [List.getD_eq_getElem?_getD, List.getElem?_eq_getElem hi]
        rfl
      rw [hz] at hM
      obtain ⟨u, hcs, hr⟩ := hM
      subst hcs
      have h0 := hcell 0 u rfl
      have f0 := hfr 0
      rw [show (Kd.tag f (Kd.slice 3 (Kd.int .i64))).sz = 1 from rfl, Nat.mul_one, Nat.add_zero] at h0 f0
      exact ⟨u, h0, f0, (Kd.R_val hr).2, Kd.R_mono hr (fun k hk => ⟨hk.1.2, hk.2⟩)⟩
    have hval : ∀ j u, w.cell? ⟨g, RB.ix xs.length j, none⟩ = some u → RB.val w g xs.length j = u := fun j u hu => by unfold RB.val; rw [hu]; rfl
    have hfree : ∀ j, w.frozen? ⟨g, j, none⟩ = false := fun j => by
      unfold World.frozen?
      simp [hb]
    refine ⟨g, f, rfl, ⟨hp, fun j => ?_, hfree, fun j => ?_, fun j => ?_, blk_lt hb, hg, ⟨cur, hb, by simpa [Kd.tag, Kd.slice] using hcs⟩, by rw [List.length_zipIdx] at hnc; exact hnc, hcm⟩⟩
    · obtain ⟨u, h1, _, _, _⟩ := key j
      rw [hval j u h1]; exact h1
    · obtain ⟨u, h1, _, h3, _⟩ := key j
      rw [hval j u h1]; exact h3
    · obtain ⟨u, h1, _, _, h4⟩ := key j
      rw [hval j u h1]; exact h4
/-- What a call is handed: a row's value, its contents. -/
theorem RB.Row.read {w : World} {base g c : Nat} {xs : List (List Int)} {f : Nat → Nat} (h : RB.Row w base g c xs f) {W : World} (hW : ∀ k, k < w.heap.size → k ≠ g → W.heap[k]? = w.heap[k]?) (j : Nat) :
    ∃ A1 c1, RB.val w g xs.length j = .slice A1 (RB.con xs j).length c1 ∧ (RB.con xs j).length ≤ c1 ∧ Kd.C (Kd.int .i64) W A1 (RB.con xs j).length (RB.con xs j) := by
  have hr := Kd.R_step (w1 := W) (h.inner j) (fun k hk hlt => hW k hlt hk.1)
  exact Kd.R_reads hr
theorem RB.C_max {W : World} {A : Option Addr} {l : List Int} (h : Kd.C (Kd.int .i64) W A l.length l) : l.length ≤ 9223372036854775807 := h.2.1
set_option maxHeartbeats 1000000 in
/-- No row has a number above 1000. -/
theorem RB.pred {W : World} {A : Option Addr} {c : Nat} {l : List Int} (hC : Kd.C (Kd.int .i64) W A l.length l) (hc : l.length ≤ c) (hne : l ≠ []) (hb : ∀ x ∈ l, x ≤ 1000) :
    Calls Try.prog 47 #[.slice A l.length c] W fun e w' => e = .returned (.bool false) ∧ Below W.heap.size W w' := by
  obtain ⟨k, r, hk, hr⟩ := RB.max_f l 1000 (RB.C_max hC) hb hne
  have HM := Aside0.mk (slices_Max_int_int.calls k A c l r W hC hc hk)
  have d1 : decide (1000 < r) = false := decide_eq_false (by omega)
  clear hC hc hne hb hk hr
  go_enter Try.func47, Try.ntmps47
  go_wp2_with (go_at_call 44; refine HM.out.mono ?_; rintro e w1 ⟨rfl, hb⟩; have HB := Aside0.mk hb; clear hb)
  go_ret
  exact ⟨rfl, HB.out⟩
set_option maxHeartbeats 4000000 in
theorem RB.index {w : World} {base g c : Nat} {xs : List (List Int)} {f : Nat → Nat} (h : RB.Row w base g c xs f) (hf : RB.fit xs = true) :
    Calls Try.prog 71 #[.slice (some ⟨g, 0, none⟩) xs.length c, .func (.func 47) #[] #[]] w fun e w' => e = .returned (.int .i64 (-1)) ∧ Below w.heap.size w w' := by
  have eg : ∀ args w, (callFunc 47 args).run Try.prog w = .ok (.enter 47 args) w := enters_of Try.func47 (by kernel_rfl) rfl
  have HC := Aside0.mk (fun (W : World) (hb : Below w.heap.size w W) (j : Nat) => by
    obtain ⟨A1, c1, hv, hc, hC⟩ := h.read (W := W) (fun k hk _ => hb.block k hk) j
    have hm := RB.con_mem (List.length_pos_iff.1 h.pos) j
    have hq := List.all_eq_true.1 (Bool.and_eq_true _ _ ▸ hf : _ ∧ _).2 _ hm
    rw [Bool.and_eq_true] at hq
    have := RB.pred (W := W) (A := A1) (c := c1) (l := RB.con xs j) hC hc (of_decide_eq_true hq.1) (fun x hx => of_decide_eq_true (List.all_eq_true.1 hq.2 x hx))
    rw [← hv] at this
    exact this : ∀ (W : World), Below w.heap.size w W → ∀ j, Calls Try.prog 47 #[RB.val w g xs.length j] W fun e w' => e = .returned (.bool false) ∧ Below W.heap.size W w')
  have HCELL := Aside0.mk (fun (j : Nat) (hj : j < xs.length) => by
    have := h.cell j
    rw [RB.ix_of hj] at this
    exact this : ∀ j, j < xs.length → w.cell? ⟨g, j, none⟩ = some (RB.val w g xs.length j))
  have HLT := Aside0.mk h.lt
  have hmx : xs.length ≤ 9223372036854775807 := by have h1 := h.le; have h2 := h.max; unfold maxLen at h2; omega
  clear h hf
  generalize xs.length = n at *
  go_enter Try.func71, Try.ntmps71
  go_wp2
  go_loopg [5, 8] n (fun gg _ s8 wr => ∃ kk : Nat, kk ≤ n ∧ n - kk ≤ gg ∧ s8 = .int .i64 kk ∧ Aside0 (Below w.heap.size w wr))
  case atStart => exact ⟨0, Nat.zero_le _, by omega, rfl, ⟨Below.refl _ _⟩⟩
  case round =>
    obtain ⟨kk, hkk, hg, rfl, HB⟩ := hrel
    by_cases hlt : kk < n
    · have hltz : (kk : Int) < (n : Int) := by omega
      have hcell : wr.cell? ⟨g, kk, none⟩ = some (RB.val w g n kk) := (HB.out.cell (p := ⟨g, kk, none⟩) HLT.out).trans (HCELL.out kk hlt)
      have hcall := HC.out wr HB.out kk
      generalize RB.val w g n kk = y at hcell hcall
      have HCALL := Aside0.mk hcall
      clear hcall
      go_wp2_with (go_at_fn 47; refine HCALL.out.mono ?_; rintro e w9 ⟨rfl, hb⟩; have HB9 := Aside0.mk (below_step HB.out hb); clear hb)
      go_roundg (n - (kk + 1))
      case measure => omega
      case rel => exact ⟨kk + 1, by omega, by omega, by go_num, HB9⟩
    · have hltz : ¬ (kk : Int) < (n : Int) := by omega
      go_wp2
      go_ret
      exact ⟨rfl, HB.out⟩
set_option maxHeartbeats 2000000 in
theorem RB.delete {w : World} {base g c : Nat} {xs : List (List Int)} {f : Nat → Nat} (h : RB.Row w base g c xs f) (hf : RB.fit xs = true) :
    Calls Try.prog 46 #[.slice (some ⟨g, 0, none⟩) xs.length c, .func (.func 47) #[] #[]] w fun e w' => e = .returned (.slice (some ⟨g, 0, none⟩) xs.length c) ∧ Below w.heap.size w w' := by
  have HI := Aside0.mk (RB.index h hf)
  clear h hf
  generalize xs.length = n at *
  go_enter Try.func46, Try.ntmps46
  go_wp2_with (go_at_call 71; refine HI.out.mono ?_; rintro e w1 ⟨rfl, hb⟩; have HB := Aside0.mk hb; clear hb)
  go_ret
  exact ⟨rfl, HB.out⟩
set_option maxHeartbeats 2000000 in
theorem RB.delete_nil (A : Option Addr) (c : Nat) (w : World) :
    Calls Try.prog 46 #[.slice A 0 c, .func (.func 47) #[] #[]] w fun e w' => e = .returned (.slice A 0 c) ∧ Below w.heap.size w w' := by
  have HI := Aside0.mk (Try.slices_IndexFunc_empty_f71 (α := Nat) A c (.func (.func 47) #[] #[]) w)
  go_enter Try.func46, Try.ntmps46
  go_wp2_with (go_at_call 71; refine HI.out.mono ?_; rintro e w1 ⟨rfl, rfl⟩)
  go_ret
  exact ⟨rfl, Below.refl _ _⟩
theorem RB.quiet2 {P : Program} {f : FuncId} {args : Array Value} {w : World} {q n : Nat} {v : Value} (h : Calls P f args (w.drewN (q + n)) fun e w' => e = .returned v ∧ Drawn0 (w.drewN (q + n)) w') : Calls P f args (w.drewN (q + n)) fun e w'' => e = .returned v ∧ ∃ m, w'' = w.drewN (q + m) :=
  h.mono fun e w' ⟨he, hd⟩ => by
    obtain ⟨p, rfl⟩ := hd
    exact ⟨he, n + p, by rw [World.drewN_drewN, Nat.add_assoc]⟩
theorem RB.quiet {P : Program} {f : FuncId} {args : Array Value} {w : World} {n : Nat} {v : Value} (h : Calls P f args (w.drewN n) fun e w' => e = .returned v ∧ Drawn0 (w.drewN n) w') : Calls P f args (w.drewN n) fun e w'' => e = .returned v ∧ ∃ m, w'' = w.drewN m :=
  Calls.quiet_of (h.mono fun e w' ⟨he, hd⟩ => by
    obtain ⟨q, rfl⟩ := hd
    exact ⟨he, q, rfl⟩)
open Go.Sort Go.Lib in
theorem RB.put_other {α : Type} [Inhabited α] (enc : α → Value) (w : World) (g off q : Nat) (dk : Array α) {k : Nat} (hg : k ≠ g) : (putRow enc (Sort.ahead w q) g off dk).heap[k]? = w.heap[k]? := by
  unfold putRow mapBlock Sort.ahead
  simp [Array.getElem?_modify, Ne.symm hg]
def RB.kp (cO : Option Nat → List Int) (d : Array (Option Nat)) (j : Nat) : Bool := decide (j = 0 ∨ cO d[j]! ≠ cO d[j - 1]!)
open Go.Sort Go.Lib in
theorem RB.kept_same {enc : Option Nat → Value} {w : World} {blk off : Nat} {d : Array (Option Nat)} (cO : Option Nat → List Int) (hH : Holds enc w blk off d) (q : Nat) (hall : ∀ j, j < d.size → RB.kp cO d j = true) :
    (keptUpTo (RB.kp cO d) d d.size).length = d.size ∧ w.drewN q = putRow enc (Sort.ahead w q) blk off (keptUpTo (RB.kp cO d) d d.size ++ List.replicate (d.size - (keptUpTo (RB.kp cO d) d d.size).length) none).toArray := by
  have e : keptUpTo (RB.kp cO d) d d.size = d.toList := by rw [keptUpTo_all _ d _ hall, range_map_get]
  rw [e]
  refine ⟨by simp, ?_⟩
  simp only [Array.length_toList, Nat.sub_self, List.replicate_zero, List.append_nil, Array.toArray_toList]
  exact (putRow_self enc (Sort.ahead w q) blk off d (holds_ahead enc w q blk off d hH)).symm
open Go.Sort Go.Lib in
set_option maxHeartbeats 4000000 in
set_option maxRecDepth 1000000 in
theorem RB.compact (enc : Option Nat → Value) (hO : OneCell enc) (hz : enc none = .slice none 0 0) (cO : Option Nat → List Int) (blk off cap : Nat) (d : Array (Option Nat)) (w : World)
    (hcall : ∀ (W : World) (i j : Nat), i < d.size → j < d.size → (∀ k, k < w.heap.size → k ≠ blk → W.heap[k]? = w.heap[k]?) → Calls Try.prog 51 #[enc d[i]!, enc d[j]!] W fun e w' => e = .returned (.bool (decide (cO d[i]! = cO d[j]!))) ∧ Drawn0 W w')
    (hH : Holds enc w blk off d) (hsz : d.size ≤ 9223372036854775807) (hcap : d.size ≤ cap) :
    Calls Try.prog 50 #[.slice (some ⟨blk, off, none⟩) d.size cap, .func (.func 51) #[] #[]] w fun e w' => e = .returned (.slice (some ⟨blk, off, none⟩) (keptUpTo (RB.kp cO d) d d.size).length cap) ∧ ∃ q, w' = putRow enc (Sort.ahead w q) blk off (keptUpTo (RB.kp cO d) d d.size ++ List.replicate (d.size - (keptUpTo (RB.kp cO d) d d.size).length) none).toArray := by
  have eg : ∀ args w, (callFunc 51 args).run Try.prog w = .ok (.enter 51 args) w := enters_of Try.func51 (by kernel_rfl) rfl
  have hcl0 := hO.cells
  simp only [Value.cells] at hcl0
  have hst := hO.store Try.prog
  have v22 : ∀ w, (zeroValue 22).run Try.prog w = .ok (enc none) w := fun w => by rw [hz]; exact Try.zeroValue22 w
  have HS : Aside0 (∀ q, (∀ j, j < d.size → RB.kp cO d j = true) → (keptUpTo (RB.kp cO d) d d.size).length = d.size ∧ w.drewN q = putRow enc (Sort.ahead w q) blk off (keptUpTo (RB.kp cO d) d d.size ++ List.replicate (d.size - (keptUpTo (RB.kp cO d) d d.size).length) none).toArray) := ⟨fun q => RB.kept_same cO hH q⟩
  have HC := Aside0.mk hcall
  clear hcall
  obtain ⟨kp, HK⟩ : ∃ kp : Nat → Bool, Aside0 (kp = RB.kp cO d) := ⟨_, ⟨rfl⟩⟩
  rw [← HK.out] at HS ⊢
  have kneg : ∀ j, 0 < j → cO d[j]! = cO d[j - 1]! → kp j = false := fun j hj he => by rw [HK.out]; exact decide_eq_false (fun h => h.elim (fun h => by omega) (fun h => h he))
  have kpos : ∀ j, cO d[j]! ≠ cO d[j - 1]! → kp j = true := fun j he => by rw [HK.out]; exact decide_eq_true (.inr he)
  have kzero : kp 0 = true := by rw [HK.out]; exact decide_eq_true (.inl rfl)
  have klt : ∀ j, j < 1 → kp j = true := fun j hj => by
    obtain rfl : j = 0 := by omega
    exact kzero
  have KL := Aside0.mk klt
  have KN := Aside0.mk kneg
  have KP := Aside0.mk kpos
  have KZ := Aside0.mk kzero
  clear kneg kpos kzero klt HK
  by_cases h2 : d.size < 2
  · have HH := Aside0.mk hH
    clear hH
    go_enter Try.func50, Try.ntmps50
    go_wp2
    go_ret
    obtain ⟨e1, e2⟩ := HS.out 0 (fun j hj => KL.out j (by omega))
    exact ⟨by rw [e1]; rfl, 0, e2⟩
  · go_enter Try.func50, Try.ntmps50
    go_wp2
    go_loopg [5] d.size (fun g s5 wr => ∃ k q : Nat, 1 ≤ k ∧ k ≤ d.size ∧ d.size - k ≤ g ∧ s5 = .int .i64 k ∧ wr = w.drewN q ∧ Aside0 (∀ j, j < k → kp j = true))
    case atStart => exact ⟨1, 0, Nat.le_refl _, by omega, by omega, rfl, rfl, KL⟩
    case round =>
      obtain ⟨k, q, hk1, hk, hg, rfl, rfl, A⟩ := hrel
      by_cases hlt : k < d.size
      · obtain ⟨c1, f1⟩ := hH k hlt
        obtain ⟨c0, f0⟩ := hH (k - 1) (by omega)
        have HH := Aside0.mk hH
        have CALL := Aside0.mk (fun nn => RB.quiet2 (q := q) (n := nn) (HC.out (w.drewN (q + nn)) k (k - 1) hlt (by omega) (fun _ _ _ => rfl)))
        clear hH
        have KNk := Aside0.mk (KN.out k (by omega))
        have KPk := Aside0.mk (KP.out k)
        generalize d[k]! = x at c1 CALL KNk KPk
        generalize d[k - 1]! = y at c0 CALL KNk KPk
        have hw1 : IntKind.i64.wrap ((k : Int) - 1) = ((k - 1 : Nat) : Int) := by
          rw [IntWalk.i64_in _ ⟨by omega, by omega⟩]
          omega
        have hb1 : ((k - 1 : Nat) : Int) < (d.size : Int) := by omega
        by_cases hdup : cO x = cO y
        · have call1 := CALL.out
          rw [decide_eq_true hdup] at call1
          have CALL1 := Aside0.mk call1
          clear call1 CALL
          go_wp2_with fail
          go_quiet (go_loud (exact CALL1.out _))
          clear hw1 hb1 c0 c1 f0 f1
          have HD := Aside0.mk (KNk.out hdup)
          go_wp2
          go_loopg [5, 7] d.size (fun g s5 s7 wr => ∃ (kk k2 q2 : Nat) (dk : Array (Option Nat)), s5 = .int .i64 kk ∧ s7 = .int .i64 k2 ∧ 1 ≤ k2 ∧ k + k2 ≤ d.size ∧ d.size - (k + k2) ≤ g ∧ Aside0 (wr = putRow enc (Sort.ahead w q2) blk off dk) ∧ Aside0 (KeptInv kp d (k + k2) kk dk))
          case atStart => exact ⟨k, 1, q + nq, d, rfl, rfl, Nat.le_refl _, by omega, by omega, ⟨(putRow_self enc (Sort.ahead w (q + nq)) blk off d (holds_ahead enc w (q + nq) blk off d HH.out)).symm⟩, ⟨KeptInv.start A.out HD.out⟩⟩
          case round =>
            obtain ⟨kk, k2, q2, dk, rfl, rfl, h1, hle, hg2, W2, I2⟩ := hrel
            have hkk := I2.out.lt
            have hds := I2.out.size
            have HHK := Aside0.mk (show Holds enc wr blk off dk by rw [W2.out]; exact holds_putRow enc _ blk off d dk (holds_ahead enc w q2 blk off d HH.out) hds)
            by_cases hlt2 : k + k2 < d.size
            · obtain ⟨cm, _⟩ := HHK.out (k + k2) (by omega)
              obtain ⟨cp, _⟩ := HHK.out (k + k2 - 1) (by omega)
              obtain ⟨ck, fk⟩ := HHK.out kk (by omega)
              rw [I2.out.high (k + k2) (by omega), show off + (k + k2) = off + k + k2 by omega] at cm
              rw [I2.out.high (k + k2 - 1) (by omega), show off + (k + k2 - 1) = off + k + (k2 - 1) by omega] at cp
              have CALL := Aside0.mk (fun nn => RB.quiet (n := nn) (HC.out (wr.drewN nn) (k + k2) (k + k2 - 1) hlt2 (by omega) (fun j hj hne => by show wr.heap[j]? = _; rw [W2.out]; exact RB.put_other enc w blk off q2 dk hne)))
              have KNk2 := Aside0.mk (KN.out (k + k2) (by omega))
              have KPk2 := Aside0.mk (KP.out (k + k2))
              have I3 := Aside0.mk (fun hk => I2.out.keep (hk := hk) hlt2)
              generalize d[k + k2]! = u at cm CALL KNk2 KPk2 I3
              generalize d[k + k2 - 1]! = v at cp CALL KNk2 KPk2
              generalize dk[kk]! = old at ck
              have hw2 : IntKind.i64.wrap ((k2 : Int) - 1) = ((k2 - 1 : Nat) : Int) := by
                rw [IntWalk.i64_in _ ⟨by omega, by omega⟩]
                omega
              have hb2 : ((k2 - 1 : Nat) : Int) < ((d.size - k : Nat) : Int) := by omega
              have hb3 : (k2 : Int) < ((d.size - k : Nat) : Int) := by omega
              by_cases huv : cO u = cO v
              · have call1 := CALL.out
                rw [decide_eq_true huv] at call1
                have CALL1 := Aside0.mk call1
                clear call1 CALL
                go_wp2_with fail
                go_quiet (go_loud (exact CALL1.out _))
                clear hw2 hb2 hb3
                go_wp2
                go_roundg (d.size - (k + (k2 + 1)))
                case measure => omega
                case rel => exact ⟨kk, k2 + 1, q2 + nq, dk, rfl, by go_num, by omega, by omega, Nat.le_refl _, ⟨by rw [W2.out]; exact putRow_drewN _ _ _ _ _ _ _⟩, ⟨I2.out.skip (KNk2.out huv)⟩⟩
              · have call1 := CALL.out
                rw [decide_eq_false huv] at call1
                have CALL1 := Aside0.mk call1
                clear call1 CALL
                go_wp2_with fail
                go_quiet (go_loud (exact CALL1.out _))
                clear hw2 hb2
                go_wp2_with fail
                go_roundg (d.size - (k + (k2 + 1)))
                case measure => omega
                case rel => exact ⟨kk + 1, k2 + 1, q2 + nq, dk.setIfInBounds kk u, by go_num, by go_num, by omega, by omega, Nat.le_refl _, ⟨by rw [W2.out, show (putRow enc (Sort.ahead w q2) blk off dk).drewN nq = putRow enc (Sort.ahead w (q2 + nq)) blk off dk from putRow_drewN _ _ _ _ _ _ _, putRow_set enc _ blk off dk kk u (by omega)]⟩, ⟨I3.out (KPk2.out huv)⟩⟩
            · have hend : k + k2 = d.size := by omega
              have hcl : ∀ ty, (Builtin.clear_ #[26] ty #[.slice (some ⟨blk, off + kk, none⟩) (d.size - kk) (cap - kk)]).run Try.prog wr = .ok (.tuple #[]) (wr.setCells blk (off + kk) (List.replicate (d.size - kk) (enc none))) :=
                fun ty => Lib.run_clear_slice wr _ _ ty _ Try.underlying26 v22 (hO.cells none) (hO none) blk (off + kk) _ _ (by omega) (fun j hj => by rw [show off + kk + j = off + (kk + j) by omega, (HHK.out (kk + j) (by omega)).1]; rfl) (fun j hj => by rw [show off + kk + j = off + (kk + j) by omega]; exact (HHK.out (kk + j) (by omega)).2)
              have hnl : ¬ (k2 : Int) < ((d.size - k : Nat) : Int) := by omega
              go_wp2
              go_ret
              have hI := I2.out
              rw [hend] at hI
              refine ⟨by rw [hI.len]; rfl, q2, ?_⟩
              rw [hI.len, ← hI.done none, ← putRow_setCells enc _ blk off _ dk kk (by simp; omega), ← W2.out, List.map_replicate, hz]
        · have call1 := CALL.out
          rw [decide_eq_false hdup] at call1
          have CALL1 := Aside0.mk call1
          clear call1 CALL
          go_wp2_with fail
          go_quiet (go_loud (exact CALL1.out _))
          clear hw1 hb1 c0 c1 f0 f1
          go_wp2
          go_roundg (d.size - (k + 1))
          case measure => omega
          case rel =>
            refine ⟨k + 1, q + nq, by omega, by omega, Nat.le_refl _, by go_num, (by first | rfl | rw [World.drewN_drewN]), ⟨fun j hj => ?_⟩⟩
            by_cases e : j = k
            · subst e
              exact KPk.out hdup
            · exact A.out j (by omega)
      · obtain rfl : k = d.size := by omega
        have HH := Aside0.mk hH
        clear hH
        go_wp2
        go_ret
        obtain ⟨e1, e2⟩ := HS.out q A.out
        exact ⟨by rw [e1]; rfl, q, e2⟩
open Go.Sort Go.Lib in
theorem RB.sort_other {α : Type} [Inhabited α] (enc : α → Value) (w : World) (g off m : Nat) (dk : Array α) (os : Array Obj) {k : Nat} (hk : k < w.heap.size) (hg : k ≠ g) : (sortWorld enc w g off m dk os).heap[k]? = w.heap[k]? := by
  unfold sortWorld
  have hs : (putRow enc (Sort.ahead w m) g off dk).heap.size = w.heap.size := by
    unfold putRow mapBlock Sort.ahead
    simp
  rw [heap_grow_old _ _ (by rw [hs]; exact hk)]
  exact RB.put_other enc w g off m dk hg
open Go.Sort Go.Lib in
theorem RB.put_row {α : Type} [Inhabited α] (enc : α → Value) (w : World) (g q : Nat) (dk : Array α) {cur : Array Value} (hb : w.heap[g]? = some (.cells cur 22 (0, 0))) (hl : dk.size ≤ cur.size) :
    ∃ cur', (putRow enc (Sort.ahead w q) g 0 dk).heap[g]? = some (.cells cur' 22 (0, 0)) ∧ cur'.size = cur.size ∧ cur'.toList.take dk.size = dk.toList.map enc := by
  refine ⟨putCells enc 0 dk cur, ?_, by unfold putCells; simp, ?_⟩
  · unfold putRow mapBlock Sort.ahead
    simp only [Array.getElem?_modify]
    simp [hb, onCells]
  · apply List.ext_getElem
    · rw [List.length_take, List.length_map]
      unfold putCells
      simp
      exact Nat.min_eq_left hl
    · intro i h1 h2
      rw [List.length_map] at h2
      have hi : i < dk.size := by simpa using h2
      rw [List.getElem_take, List.getElem_map]
      unfold putCells
      simp only [Array.getElem_toList, Array.getElem_mapIdx]
      rw [if_pos ⟨Nat.zero_le _, by omega⟩, Nat.sub_zero, getElem!_pos dk i hi]
/-- The sort, over the rows. -/
theorem RB.swo (xs : List (List Int)) : Go.Sort.SWO (ltOf fun x y : Nat => RB.cmp (RB.con xs x) (RB.con xs y)) where
  irrefl x := by
    show decide (RB.cmp (RB.con xs x) (RB.con xs x) < 0) = false
    rw [RB.cmp_self]
    rfl
  trans x y z h1 h2 := by unfold ltOf at *; exact decide_eq_true (RB.cmp_trans _ _ _ (of_decide_eq_true h1) (of_decide_eq_true h2))
  ntrans x y z h1 h2 := by unfold ltOf at *; exact decide_eq_false (RB.cmp_ntrans _ _ _ (of_decide_eq_false h1) (of_decide_eq_false h2))
/-- Behind the sort: the world is what it was but for the row, in which the rows stand in order. -/
structure RB.At (w : World) (g c : Nat) (vs : List Value) (W : World) : Prop where
  os : W.os = w.os
  tape : W.tape = w.tape
  output : W.output = w.output
  size : w.heap.size ≤ W.heap.size
  other : ∀ k, k < w.heap.size → k ≠ g → W.heap[k]? = w.heap[k]?
  row : ∃ cur, W.heap[g]? = some (.cells cur 22 (0, 0)) ∧ cur.size = c ∧ cur.toList.take vs.length = vs
open Go.Sort Go.Lib in
theorem RB.sort {w : World} {base g c : Nat} {xs : List (List Int)} {f : Nat → Nat} (h : RB.Row w base g c xs f) (hlen : xs.length ≤ 1048576) :
    Calls Try.prog 48 #[.slice (some ⟨g, 0, none⟩) xs.length c, .func (.func 49) #[] #[]] w fun e w2 => e = .returned (.tuple #[]) ∧ ∃ p : List Nat, p.Perm (List.range xs.length) ∧ p.Pairwise (fun a b => ¬ RB.cmp (RB.con xs b) (RB.con xs a) < 0) ∧ RB.At w g c (p.map (RB.val w g xs.length)) w2 := by
  have eg : ∀ args w, (callFunc 49 args).run Try.prog w = .ok (.enter 49 args) w := enters_of Try.func49 (by kernel_rfl) rfl
  obtain ⟨cur, hb, hcs⟩ := h.blk
  have hn := h.le
  have hmax := h.max
  have hd : (Array.range xs.length).size = xs.length := by simp
  have key := Try.slices_SortFunc (RB.val w g xs.length) h.one (fun x y => RB.cmp (RB.con xs x) (RB.con xs y)) (RB.swo xs) 49 #[] g 0 c (Array.range xs.length) w eg
    (fun m os dk hs x y => by
      obtain ⟨A1, c1, e1, l1, C1⟩ := h.read (W := sortWorld (RB.val w g xs.length) w g 0 m dk os) (fun k hk hg => RB.sort_other _ w g 0 m dk os hk hg) x
      obtain ⟨A2, c2, e2, l2, C2⟩ := h.read (W := sortWorld (RB.val w g xs.length) w g 0 m dk os) (fun k hk hg => RB.sort_other _ w g 0 m dk os hk hg) y
      obtain ⟨k, hk⟩ := RB.cmp_f (RB.con xs x) (RB.con xs y) (RB.C_max C1)
      have := slices_Compare_int_int.calls k A1 c1 _ A2 c2 _ _ _ C1 l1 C2 l2 hk
      rw [show (#[RB.val w g xs.length x, RB.val w g xs.length y] ++ #[] : Array Value) = #[.slice A1 (RB.con xs x).length c1, .slice A2 (RB.con xs y).length c2] by rw [e1, e2]; rfl]
      refine this.mono fun e w' ⟨he, hw'⟩ => ⟨he, ?_⟩
      obtain ⟨q, rfl⟩ := hw'
      exact ⟨q, #[], (grow_empty _).symm⟩)
    (fun j hj => by
      rw [hd] at hj
      rw [getElem!_pos (Array.range xs.length) j (by simpa using hj), Array.getElem_range, Nat.zero_add]
      have := h.cell j
      rw [RB.ix_of hj] at this
      exact ⟨this, h.free j⟩) h.lt (by rw [hd]; omega)
  rw [hd] at key
  refine key.mono fun e w' ⟨he, d', n', os, hp, hs, hw⟩ => ⟨he, d'.toList, ?_, ?_, ?_⟩
  · have h3 := hp.2.2
    have h1 := hp.1
    rw [hd] at h1
    have e1 : d'.extract 0 xs.length = d' := by rw [← h1]; simp
    have e2 : (Array.range xs.length).extract 0 xs.length = Array.range xs.length := by
      have := Array.extract_size (xs := Array.range xs.length)
      rwa [hd] at this
    rw [e1, e2] at h3
    simpa using h3
  · have h1 := hp.1
    rw [hd] at h1
    rw [List.pairwise_iff_getElem]
    intro i j hi hj hij
    have hi' : i < d'.size := by simpa using hi
    have hj' : j < d'.size := by simpa using hj
    have := hs i j (Nat.zero_le _) hij (by omega)
    rw [getElem!_pos d' i hi', getElem!_pos d' j hj'] at this
    unfold ltOf at this
    simpa using of_decide_eq_false this
  · have h1 := hp.1
    rw [hd] at h1
    subst hw
    have hsz : (putRow (RB.val w g xs.length) (Sort.ahead w n') g 0 d').heap.size = w.heap.size := by
      unfold putRow mapBlock Sort.ahead
      simp
    obtain ⟨cur', r1, r2, r3⟩ := RB.put_row (RB.val w g xs.length) w g n' d' hb (by omega)
    refine ⟨rfl, rfl, rfl, ?_, fun k hk hg => RB.sort_other _ w g 0 n' d' os hk hg, cur', ?_, by omega, ?_⟩
    · show w.heap.size ≤ ((putRow (RB.val w g xs.length) (Sort.ahead w n') g 0 d').heap ++ os).size
      rw [Array.size_append, hsz]
      omega
    · unfold sortWorld
      rw [heap_grow_old _ _ (by rw [hsz]; exact h.lt)]
      exact r1
    · rw [List.length_map, Array.length_toList]
      exact r3
/- ## what stands behind -/
theorem RB.up_filter (q : Nat → List Int) (kp : Nat → Bool) (n : Nat) (hs : ∀ i j, i < j → j < n → ¬ RB.cmp (q j) (q i) < 0) (hk : ∀ j, j < n → kp j = true → j = 0 ∨ q j ≠ q (j - 1)) :
    RB.Up (((List.range n).filter kp).map q) := by
  unfold RB.Up
  rw [List.pairwise_map]
  have hp : ((List.range n).filter kp).Pairwise (fun i j => i < j) := List.pairwise_lt_range.filter _
  refine List.Pairwise.imp_of_mem ?_ hp
  intro i j hi hj hij
  have hjn : j < n := List.mem_range.1 (List.mem_filter.1 hj).1
  have h1 := (hk j hjn (List.mem_filter.1 hj).2).resolve_left (by omega)
  have a : RB.cmp (q (j - 1)) (q j) < 0 := by
    have h2 := hs (j - 1) j (by omega) hjn
    have h3 := RB.cmp_anti (q j) (q (j - 1))
    by_cases e : RB.cmp (q j) (q (j - 1)) = 0
    · exact absurd (RB.cmp_eq _ _ e) h1
    · omega
  by_cases e : i = j - 1
  · rw [e]; exact a
  · have h2 := hs i (j - 1) (by omega) (by omega)
    have h3 := RB.cmp_anti (q (j - 1)) (q i)
    by_cases e2 : RB.cmp (q (j - 1)) (q i) = 0
    · rw [← RB.cmp_eq _ _ e2]; exact a
    · exact RB.cmp_trans _ _ _ (by omega) a
theorem RB.mem_filter_kp (q : Nat → List Int) (kp : Nat → Bool) (n : Nat) (hk : ∀ j, j < n → kp j = false → 0 < j ∧ q j = q (j - 1)) : ∀ j, j < n → q j ∈ ((List.range n).filter kp).map q := by
  intro j
  induction j using Nat.strongRecOn with
  | _ j ih =>
    intro hj
    cases h : kp j with
    | true => exact List.mem_map.2 ⟨j, List.mem_filter.2 ⟨List.mem_range.2 hj, h⟩, rfl⟩
    | false =>
      obtain ⟨h0, he⟩ := hk j hj h
      rw [he]
      exact ih (j - 1) (by omega) (by omega)
def RB.encO (w : World) (g n : Nat) : Option Nat → Value
  | none => .slice none 0 0
  | some j => RB.val w g n j
def RB.conO (xs : List (List Int)) : Option Nat → List Int
  | none => []
  | some j => RB.con xs j
open Go.Sort Go.Lib in
theorem RB.back {w1 w2 w3 : World} {base g c : Nat} {xs : List (List Int)} {f : Nat → Nat} (h : RB.Row w1 base g c xs f) {p : List Nat} (hp : p.Perm (List.range xs.length)) (hs : p.Pairwise (fun a b => ¬ RB.cmp (RB.con xs b) (RB.con xs a) < 0)) (hA : RB.At w1 g c (p.map (RB.val w1 g xs.length)) w2)
    {d : Array (Option Nat)} (hd : d = (p.map some).toArray) {q : Nat} (hw : w3 = putRow (RB.encO w1 g xs.length) (Sort.ahead w2 q) g 0 (keptUpTo (RB.kp (RB.conO xs) d) d d.size ++ List.replicate (d.size - (keptUpTo (RB.kp (RB.conO xs) d) d d.size).length) none).toArray) :
    Kd.S (Kd.slice 3 (Kd.int .i64)) 22 w3 base (fun _ => True) (.slice (some ⟨g, 0, none⟩) (keptUpTo (RB.kp (RB.conO xs) d) d d.size).length c) (RB.fin xs) := by
  have hn : p.length = xs.length := by rw [hp.length_eq, List.length_range]
  have hds : d.size = xs.length := by rw [hd]; simp [hn]
  -- the kept places
  obtain ⟨idx, hidx⟩ : ∃ idx, idx = (List.range xs.length).filter (RB.kp (RB.conO xs) d) := ⟨_, rfl⟩
  obtain ⟨qs, hqs⟩ : ∃ qs, qs = idx.map (fun j => p.getD j 0) := ⟨_, rfl⟩
  have hdj : ∀ j, j < xs.length → d[j]! = some (p.getD j 0) := fun j hj => by
    rw [hd, getElem!_pos _ j (by simp; omega)]
    simp [List.getD_eq_getElem?_getD, List.getElem?_eq_getElem (show j < p.length by omega)]
  have hK : keptUpTo (RB.kp (RB.conO xs) d) d d.size = qs.map some := by
    unfold keptUpTo
    rw [hds, hqs, ← hidx, List.map_map]
    refine List.map_congr_left fun j hj => ?_
    rw [hidx] at hj
    exact hdj j (List.mem_range.1 (List.mem_filter.1 hj).1)
  have hkp : ∀ j, j < xs.length → (RB.kp (RB.conO xs) d j = true ↔ j = 0 ∨ RB.con xs (p.getD j 0) ≠ RB.con xs (p.getD (j - 1) 0)) := fun j hj => by
    unfold RB.kp
    rw [decide_eq_true_eq, hdj j hj, hdj (j - 1) (by omega)]
    rfl
  have hcon : qs.map (RB.con xs) = RB.fin xs := by
    have e : qs.map (RB.con xs) = ((List.range xs.length).filter (RB.kp (RB.conO xs) d)).map (fun j => RB.con xs (p.getD j 0)) := by
      rw [hqs, hidx, List.map_map]; rfl
    rw [e]
    refine RB.up_uniq (RB.up_filter (fun j => RB.con xs (p.getD j 0)) _ xs.length (fun i j hij hj => ?_) (fun j hj hk => (hkp j hj).1 hk)) (RB.fin_up xs) fun z => ?_
    · have := List.pairwise_iff_getElem.1 hs i j (by omega) (by omega) hij
      simpa [List.getD_eq_getElem?_getD, List.getElem?_eq_getElem (show j < p.length by omega), List.getElem?_eq_getElem (show i < p.length by omega)] using this
    · rw [RB.mem_fin]
      constructor
      · intro hz
        obtain ⟨j, hj, rfl⟩ := List.mem_map.1 hz
        exact RB.con_mem (List.length_pos_iff.1 h.pos) _
      · intro hz
        obtain ⟨i, hi, rfl⟩ := List.getElem_of_mem hz
        have hip : i ∈ p := hp.mem_iff.2 (List.mem_range.2 hi)
        obtain ⟨j, hj, he⟩ := List.getElem_of_mem hip
        have := RB.mem_filter_kp (fun j => RB.con xs (p.getD j 0)) (RB.kp (RB.conO xs) d) xs.length (fun j hj hk => by
          have h1 := (not_congr (hkp j hj)).1 (by rw [hk]; simp)
          exact ⟨by omega, by
            by_cases e : RB.con xs (p.getD j 0) = RB.con xs (p.getD (j - 1) 0)
            · exact e
            · exact absurd (.inr e) h1⟩) j (by omega)
        have e2 : RB.con xs (p.getD j 0) = xs[i] := by
          rw [List.getD_eq_getElem?_getD, List.getElem?_eq_getElem hj, he]
          unfold RB.con
          show xs.getD (RB.ix xs.length i) [] = xs[i]
          rw [RB.ix_of hi, List.getD_eq_getElem?_getD, List.getElem?_eq_getElem hi]
          rfl
        rw [← e2]
        exact this
  have hnd : qs.Nodup := by
    have h1 : p.Nodup := hp.nodup_iff.2 List.nodup_range
    rw [hqs]
    have h2 : idx.Pairwise (fun i j => i < j) := by rw [hidx]; exact List.pairwise_lt_range.filter _
    unfold List.Nodup
    rw [List.pairwise_map]
    refine List.Pairwise.imp_of_mem ?_ h2
    intro i j hi hj hij
    rw [hidx] at hi hj
    have hi' : i < p.length := by have := List.mem_range.1 (List.mem_filter.1 hi).1; omega
    have hj' : j < p.length := by have := List.mem_range.1 (List.mem_filter.1 hj).1; omega
    rw [List.getD_eq_getElem?_getD, List.getD_eq_getElem?_getD, List.getElem?_eq_getElem hi', List.getElem?_eq_getElem hj']
    intro e
    exact List.pairwise_iff_getElem.1 h1 i j hi' hj' hij (show p[i] = p[j] from e)
  have hql : qs.length ≤ xs.length := by
    rw [hqs, List.length_map, hidx]
    have := List.length_filter_le (RB.kp (RB.conO xs) d) (List.range xs.length)
    rwa [List.length_range] at this
  have hqlt : ∀ a ∈ qs, a < xs.length := fun a ha => by
    rw [hqs] at ha
    obtain ⟨j, hj, rfl⟩ := List.mem_map.1 ha
    rw [hidx] at hj
    have hj' : j < p.length := by have := List.mem_range.1 (List.mem_filter.1 hj).1; omega
    rw [List.getD_eq_getElem?_getD, List.getElem?_eq_getElem hj']
    exact List.mem_range.1 (hp.mem_iff.1 (List.getElem_mem hj'))
  rw [hK] at hw ⊢
  obtain ⟨cur, c1, c2, c3⟩ := hA.row
  have hsz : (qs.map some ++ List.replicate (d.size - (qs.map some).length) none).toArray.size = xs.length := by
    simp [hds]
    omega
  obtain ⟨cur', r1, r2, r3⟩ := RB.put_row (RB.encO w1 g xs.length) w2 g q (qs.map some ++ List.replicate (d.size - (qs.map some).length) none).toArray c1 (by rw [hsz, c2]; exact h.le)
  rw [← hw] at r1
  rw [hsz] at r3
  have hfin : (RB.fin xs).length = qs.length := by rw [← hcon, List.length_map]
  have htake : cur'.toList.take qs.length = qs.map (RB.val w1 g xs.length) := by
    have : (cur'.toList.take xs.length).take qs.length = cur'.toList.take qs.length := by rw [List.take_take, Nat.min_eq_left hql]
    rw [← this, r3]
    rw [List.toList_toArray, List.map_append, List.take_left' (by simp), List.map_map]
    rfl
  have hoth : ∀ k, k < w1.heap.size → k ≠ g → w3.heap[k]? = w1.heap[k]? := fun k hk hg => by
    rw [hw, RB.put_other _ w2 g 0 q _ hg]
    exact hA.other k hk hg
  refine ⟨fun k => qs.idxOf (f k), fun _ _ => trivial, qs.map (RB.val w1 g xs.length), ⟨by rw [List.length_zipIdx, hfin]; simp [Kd.tag, Kd.slice], .inr ⟨g, c, cur', by rw [List.length_zipIdx, hfin, List.length_map], h.ge, r1, by rw [List.length_zipIdx, hfin]; have := h.le; omega, h.max, by simp [Kd.tag, Kd.slice]; omega, by rw [List.length_zipIdx, hfin]; simp only [Kd.tag, Kd.slice, Nat.mul_one]; exact htake⟩⟩, ⟨by rw [List.length_zipIdx, hfin]; simp [Kd.tag, Kd.slice], fun j pj hj => ?_⟩⟩
  rw [List.getElem?_zipIdx, Nat.zero_add] at hj
  obtain ⟨x, hx, rfl⟩ := Option.map_eq_some_iff.1 hj
  rw [← hcon, List.getElem?_map] at hx
  obtain ⟨a, ha, rfl⟩ := Option.map_eq_some_iff.1 hx
  obtain ⟨hjl, hja⟩ := List.getElem?_eq_some_iff.1 ha
  have hcell : ((qs.map (RB.val w1 g xs.length)).drop (j * 1)).take 1 = [RB.val w1 g xs.length a] := by
    rw [Nat.mul_one, List.drop_eq_getElem_cons (by simpa using hjl), List.take_succ_cons, List.take_zero, List.getElem_map, hja]
  show (Kd.tag _ (Kd.slice 3 (Kd.int .i64))).M w3 base _ (RB.con xs a, j) _
  refine ⟨RB.val w1 g xs.length a, hcell, ?_⟩
  refine Kd.R_mono (Kd.R_step (h.inner a) (fun k hk hlt => hoth k hlt hk.1)) (fun k hk => ⟨⟨trivial, fun e => ?_⟩, ?_⟩)
  · injection e with e
    exact hk.1 e
  · show qs.idxOf (f k) = j
    rw [hk.2, RB.ix_of (hqlt a (by rw [← hja]; exact List.getElem_mem hjl)), ← hja]
    exact List.Nodup.idxOf_getElem hnd j hjl
set_option maxHeartbeats 1000000 in
theorem RB.compact_nil (A : Option Addr) (c : Nat) (w : World) : Calls Try.prog 50 #[.slice A 0 c, .func (.func 51) #[] #[]] w fun e w' => e = .returned (.slice A 0 c) ∧ Below w.heap.size w w' := by
  go_enter Try.func50, Try.ntmps50
  go_wp2
  go_ret
  exact ⟨rfl, Below.refl _ _⟩
open Go.Sort Go.Lib in
theorem RB.rows (w : World) (base : Nat) (A : Option Addr) (c : Nat) (xs : List (List Int)) (h : Kd.S (Kd.slice 3 (Kd.int .i64)) 22 w base (fun _ => True) (.slice A xs.length c) xs) (hf : RB.fit xs = true) :
    Calls Try.prog 46 #[.slice A xs.length c, .func (.func 47) #[] #[]] w fun e w1 => e = .returned (.slice A xs.length c) ∧
      Calls Try.prog 48 #[.slice A xs.length c, .func (.func 49) #[] #[]] w1 fun e w2 => e = .returned (.tuple #[]) ∧
        Calls Try.prog 50 #[.slice A xs.length c, .func (.func 51) #[] #[]] w2 fun e w3 => ∃ v, e = .returned v ∧ Kd.S (Kd.slice 3 (Kd.int .i64)) 22 w3 base (fun _ => True) v (RB.fin xs) ∧ ∀ w0 : World, base ≤ w.heap.size → Below base w0 w → Below base w0 w3 := by
  by_cases hne : xs = []
  · subst hne
    refine (RB.delete_nil A c w).mono fun e w1 ⟨he, hb1⟩ => ⟨he, ?_⟩
    refine (Try.slices_SortFunc_none (α := Nat) A c _ w1).mono fun e w2 ⟨he, hw2⟩ => ⟨he, ?_⟩
    subst hw2
    refine (RB.compact_nil A c w2).mono fun e w3 ⟨he, hb3⟩ => ⟨_, he, Kd.S_below (Kd.S_below h hb1) hb3, fun w0 hle hb => ?_⟩
    exact hb.trans ((hb1.mono hle).trans (hb3.mono (Nat.le_trans hle hb1.size)))
  · obtain ⟨g, f, rfl, hrow⟩ := RB.row_of h hne
    refine (RB.delete hrow hf).mono fun e w1 ⟨he, hb1⟩ => ⟨he, ?_⟩
    obtain ⟨g', f', e', hrow1⟩ := RB.row_of (Kd.S_below h hb1) hne
    injection e' with e'
    injection e' with e'
    subst e'
    refine (RB.sort hrow1 (of_decide_eq_true (Bool.and_eq_true _ _ ▸ hf : _ ∧ _).1)).mono fun e w2 ⟨he, p, hp, hs, hA⟩ => ⟨he, ?_⟩
    have hn : p.length = xs.length := by rw [hp.length_eq, List.length_range]
    obtain ⟨d, hd⟩ : ∃ d, d = (p.map some).toArray := ⟨_, rfl⟩
    have hds : d.size = xs.length := by rw [hd]; simp [hn]
    have hdj : ∀ j, j < xs.length → d[j]! = some (p.getD j 0) := fun j hj => by
      rw [hd, getElem!_pos _ j (by simp; omega)]
      simp [List.getD_eq_getElem?_getD, List.getElem?_eq_getElem (show j < p.length by omega)]
    have hmax := hrow1.max
    have hle := hrow1.le
    have key := RB.compact (RB.encO w1 g xs.length) (fun x => by
        cases x with
        | none => rfl
        | some j => exact hrow1.one j) rfl (RB.conO xs) g 0 c d w2 (fun W i j hi hj hW => by
        rw [hdj i (by omega), hdj j (by omega)]
        have hW1 : ∀ k, k < w1.heap.size → k ≠ g → W.heap[k]? = w1.heap[k]? := fun k hk hg => (hW k (Nat.lt_of_lt_of_le hk hA.size) hg).trans (hA.other k hk hg)
        obtain ⟨A1, c1, e1, l1, C1⟩ := hrow1.read hW1 (p.getD i 0)
        obtain ⟨A2, c2, e2, l2, C2⟩ := hrow1.read hW1 (p.getD j 0)
        obtain ⟨k, hk⟩ := RB.eq_f (RB.con xs (p.getD i 0)) (RB.con xs (p.getD j 0)) (RB.C_max C1)
        have := slices_Equal_int_int.calls k A1 c1 _ A2 c2 _ _ _ C1 l1 C2 l2 hk
        show Calls Try.prog _ #[RB.val w1 g xs.length (p.getD i 0), RB.val w1 g xs.length (p.getD j 0)] W _
        rw [e1, e2]
        exact this) (fun j hj => by
        rw [hds] at hj
        obtain ⟨cur, c1, c2, c3⟩ := hA.row
        rw [hdj j hj, Nat.zero_add]
        have hlt : j < cur.size := by omega
        have hv : cur[j] = RB.val w1 g xs.length (p.getD j 0) := by
          have h1 : (cur.toList.take (p.map (RB.val w1 g xs.length)).length)[j]? = (p.map (RB.val w1 g xs.length))[j]? := by rw [c3]
          rw [List.getElem?_take, if_pos (by rw [List.length_map]; omega), List.getElem?_map, List.getElem?_eq_getElem (show j < p.length by omega), List.getElem?_eq_getElem (by simpa using hlt)] at h1
          rw [List.getD_eq_getElem?_getD, List.getElem?_eq_getElem (show j < p.length by omega)]
          simpa using h1
        refine ⟨?_, ?_⟩
        · unfold World.cell?
          simp [c1, hlt, hv, RB.encO]
        · unfold World.frozen?
          simp [c1]) (by rw [hds]; unfold maxLen at hmax; omega) (by rw [hds]; exact hle)
    rw [hds] at key
    refine key.mono fun e w3 ⟨he, q, hw⟩ => ⟨_, he, ?_, fun w0 hle0 hb => ?_⟩
    · have hback := RB.back (w3 := w3) (q := q) hrow1 hp hs hA hd (by rw [hds]; exact hw)
      rw [hds] at hback
      exact hback
    · have hg : base ≤ g := hrow1.ge
      have hlt : g < w1.heap.size := hrow1.lt
      have hsz : w3.heap.size = w2.heap.size := by
        rw [hw]
        unfold Go.Sort.putRow Go.Sort.mapBlock Go.Sort.ahead
        simp
      have h1 : w3.os = w2.os ∧ w3.tape = w2.tape ∧ w3.output = w2.output := by rw [hw]; exact ⟨rfl, rfl, rfl⟩
      refine ⟨by rw [h1.1, hA.os, hb1.os, hb.os], by rw [h1.2.1, hA.tape, hb1.tape, hb.tape], by rw [h1.2.2, hA.output, hb1.output, hb.output], ?_, fun k hk => ?_⟩
      · have := hb.size; have := hb1.size; have := hA.size; omega
      · have e3 : w3.heap[k]? = w2.heap[k]? := by rw [hw]; exact RB.put_other _ w2 g 0 q _ (by omega)
        rw [e3, hA.other k (by omega) (by omega), hb1.block k (by omega), hb.block k hk]
mutual
def impl_RingsBefore.j0 : Nat → List Int → Bool → Option ((List (List Int)) × Bool)
  | 0, _, _ => none
  | k + 1, x0, x19 => if x19 = true then (some (([] : List (List Int)), false)) else (impl_RingsBefore.l0 k x0 (([] : List (List Int))) (shl .i64 1 (x0.length : Int)) 0)
def impl_RingsBefore.l0 : Nat → List Int → List (List Int) → Int → Int → Option ((List (List Int)) × Bool)
  | 0, _, _, _, _ => none
  | k + 1, x0, x4, x23, x24 => if x24 < x23 then (impl_RingsBefore.l1 k x0 x4 x24 (([] : List Int)) 0 x23 x24 x0 (x0.length : Int) 0) else (if RB.fit x4 = true then some (RB.fin x4, true) else none)
def impl_RingsBefore.l1 : Nat → List Int → List (List Int) → Int → List Int → Int → Int → Int → List Int → Int → Int → Option ((List (List Int)) × Bool)
  | 0, _, _, _, _, _, _, _, _, _, _ => none
  | k + 1, x0, x4, x5, x6, x7, x23, x24, x28, x29, x30 => if x30 < x29 then (if 0 ≤ x30 then (if x30 < (x28.length : Int) then (if x6.length < 17592186044416 then ((some (x6 ++ [x7] : List Int)).bind fun y116 => (if (Go.bits .and .i64 (shr .i64 x5 x30) 1) = 1 then (impl_RingsBefore.l1 k x0 x4 x5 y116 (wrap64 (x7 + (wrap64 (-(rd x28 x30))))) x23 x24 x28 x29 (wrap64 (x30 + 1))) else (impl_RingsBefore.l1 k x0 x4 x5 y116 (wrap64 (x7 + (rd x28 x30))) x23 x24 x28 x29 (wrap64 (x30 + 1))))) else (none)) else (none)) else (none)) else (if x7 = 0 then ((slices_Min_int_int.f k x6).bind fun t119 => (impl_RingsBefore.l2 k x0 x4 x6 t119 x23 x24 (x6.length : Int) 0)) else (impl_RingsBefore.l0 k x0 x4 x23 (wrap64 (x24 + 1))))
def impl_RingsBefore.l2 : Nat → List Int → List (List Int) → List Int → Int → Int → Int → Int → Int → Option ((List (List Int)) × Bool)
  | 0, _, _, _, _, _, _, _, _ => none
  | k + 1, x0, x4, x6, x10, x23, x24, x55, x56 => if x56 < x55 then (if 0 ≤ x56 then (if x56 < (x6.length : Int) then (impl_RingsBefore.l2 k x0 x4 (x6.set (x56 : Int).toNat (wrap64 ((rd x6 x56) - x10))) x10 x23 x24 x55 (wrap64 (x56 + 1))) else (none)) else (none)) else (if x4.length < 5864062014805 then (impl_RingsBefore.l0 k x0 (x4 ++ [x6]) x23 (wrap64 (x24 + 1))) else (none))
end
def impl_RingsBefore.f (k : Nat) (l0 : List Int) : Option ((List (List Int)) × Bool) := (impl_IsRing.f l0).bind fun t107 => (if t107 = true then ((slices_Max_int_int.f k l0).bind fun t108 => (impl_RingsBefore.j0 k l0 (decide (t108 > 100)))) else (impl_RingsBefore.j0 k l0 true))
theorem impl_RingsBefore.mono_l : ∀ k, (∀ y0 y1, LeO (impl_RingsBefore.j0 k y0 y1) (impl_RingsBefore.j0 (k + 1) y0 y1)) ∧ (∀ y0 y1 y2 y3, LeO (impl_RingsBefore.l0 k y0 y1 y2 y3) (impl_RingsBefore.l0 (k + 1) y0 y1 y2 y3)) ∧ (∀ y0 y1 y2 y3 y4 y5 y6 y7 y8 y9, LeO (impl_RingsBefore.l1 k y0 y1 y2 y3 y4 y5 y6 y7 y8 y9) (impl_RingsBefore.l1 (k + 1) y0 y1 y2 y3 y4 y5 y6 y7 y8 y9)) ∧ (∀ y0 y1 y2 y3 y4 y5 y6 y7, LeO (impl_RingsBefore.l2 k y0 y1 y2 y3 y4 y5 y6 y7) (impl_RingsBefore.l2 (k + 1) y0 y1 y2 y3 y4 y5 y6 y7))
  | 0 => ⟨fun _ _ r h => by simp [impl_RingsBefore.j0] at h, fun _ _ _ _ r h => by simp [impl_RingsBefore.l0] at h, fun _ _ _ _ _ _ _ _ _ _ r h => by simp [impl_RingsBefore.l1] at h, fun _ _ _ _ _ _ _ _ r h => by simp [impl_RingsBefore.l2] at h⟩
  | k + 1 => by
    obtain ⟨ih0, ih1, ih2, ih3⟩ := impl_RingsBefore.mono_l k
    refine ⟨?_, ?_, ?_, ?_⟩
    · intro y0 y1
      unfold impl_RingsBefore.j0
      repeat' first
      | (with_reducible exact ih0 _ _)
      | (with_reducible exact ih1 _ _ _ _)
      | (with_reducible exact ih2 _ _ _ _ _ _ _ _ _ _)
      | (with_reducible exact ih3 _ _ _ _ _ _ _ _)
      | (with_reducible exact slices_Max_int_int.mono _ _)
      | (with_reducible exact slices_Min_int_int.mono _ _)
      | (with_reducible exact LeO.refl _)
      | (with_reducible exact LeO.none _)
      | (with_reducible refine LeO.ite ?_ ?_)
      | (with_reducible refine LeO.bind ?_ (fun _ => ?_))
      | exact ih0 _ _
      | exact ih1 _ _ _ _
      | exact ih2 _ _ _ _ _ _ _ _ _ _
      | exact ih3 _ _ _ _ _ _ _ _
      | exact slices_Max_int_int.mono _ _
      | exact slices_Min_int_int.mono _ _
      | exact LeO.none _
      | refine LeO.ite ?_ ?_
      | refine LeO.bind ?_ (fun _ => ?_)
    · intro y0 y1 y2 y3
      unfold impl_RingsBefore.l0
      repeat' first
      | (with_reducible exact ih0 _ _)
      | (with_reducible exact ih1 _ _ _ _)
      | (with_reducible exact ih2 _ _ _ _ _ _ _ _ _ _)
      | (with_reducible exact ih3 _ _ _ _ _ _ _ _)
      | (with_reducible exact slices_Max_int_int.mono _ _)
      | (with_reducible exact slices_Min_int_int.mono _ _)
      | (with_reducible exact LeO.refl _)
      | (with_reducible exact LeO.none _)
      | (with_reducible refine LeO.ite ?_ ?_)
      | (with_reducible refine LeO.bind ?_ (fun _ => ?_))
      | exact ih0 _ _
      | exact ih1 _ _ _ _
      | exact ih2 _ _ _ _ _ _ _ _ _ _
      | exact ih3 _ _ _ _ _ _ _ _
      | exact slices_Max_int_int.mono _ _
      | exact slices_Min_int_int.mono _ _
      | exact LeO.none _
      | refine LeO.ite ?_ ?_
      | refine LeO.bind ?_ (fun _ => ?_)
    · intro y0 y1 y2 y3 y4 y5 y6 y7 y8 y9
      unfold impl_RingsBefore.l1
      repeat' first
      | (with_reducible exact ih0 _ _)
      | (with_reducible exact ih1 _ _ _ _)
      | (with_reducible exact ih2 _ _ _ _ _ _ _ _ _ _)
      | (with_reducible exact ih3 _ _ _ _ _ _ _ _)
      | (with_reducible exact slices_Max_int_int.mono _ _)
      | (with_reducible exact slices_Min_int_int.mono _ _)
      | (with_reducible exact LeO.refl _)
      | (with_reducible exact LeO.none _)
      | (with_reducible refine LeO.ite ?_ ?_)
      | (with_reducible refine LeO.bind ?_ (fun _ => ?_))
      | exact ih0 _ _
      | exact ih1 _ _ _ _
      | exact ih2 _ _ _ _ _ _ _ _ _ _
      | exact ih3 _ _ _ _ _ _ _ _
      | exact slices_Max_int_int.mono _ _
      | exact slices_Min_int_int.mono _ _
      | exact LeO.none _
      | refine LeO.ite ?_ ?_
      | refine LeO.bind ?_ (fun _ => ?_)
    · intro y0 y1 y2 y3 y4 y5 y6 y7
      unfold impl_RingsBefore.l2
      repeat' first
      | (with_reducible exact ih0 _ _)
      | (with_reducible exact ih1 _ _ _ _)
      | (with_reducible exact ih2 _ _ _ _ _ _ _ _ _ _)
      | (with_reducible exact ih3 _ _ _ _ _ _ _ _)
      | (with_reducible exact slices_Max_int_int.mono _ _)
      | (with_reducible exact slices_Min_int_int.mono _ _)
      | (with_reducible exact LeO.refl _)
      | (with_reducible exact LeO.none _)
      | (with_reducible refine LeO.ite ?_ ?_)
      | (with_reducible refine LeO.bind ?_ (fun _ => ?_))
      | exact ih0 _ _
      | exact ih1 _ _ _ _
      | exact ih2 _ _ _ _ _ _ _ _ _ _
      | exact ih3 _ _ _ _ _ _ _ _
      | exact slices_Max_int_int.mono _ _
      | exact slices_Min_int_int.mono _ _
      | exact LeO.none _
      | refine LeO.ite ?_ ?_
      | refine LeO.bind ?_ (fun _ => ?_)
theorem impl_RingsBefore.mono : ∀ a0 k, LeO (impl_RingsBefore.f k a0) (impl_RingsBefore.f (k + 1) a0) := by
  intro a0 k
  obtain ⟨ih0, ih1, ih2, ih3⟩ := impl_RingsBefore.mono_l k
  unfold impl_RingsBefore.f
  repeat' first
      | (with_reducible exact ih0 _ _)
      | (with_reducible exact ih1 _ _ _ _)
      | (with_reducible exact ih2 _ _ _ _ _ _ _ _ _ _)
      | (with_reducible exact ih3 _ _ _ _ _ _ _ _)
      | (with_reducible exact slices_Max_int_int.mono _ _)
      | (with_reducible exact slices_Min_int_int.mono _ _)
      | (with_reducible exact LeO.refl _)
      | (with_reducible exact LeO.none _)
      | (with_reducible refine LeO.ite ?_ ?_)
      | (with_reducible refine LeO.bind ?_ (fun _ => ?_))
      | exact ih0 _ _
      | exact ih1 _ _ _ _
      | exact ih2 _ _ _ _ _ _ _ _ _ _
      | exact ih3 _ _ _ _ _ _ _ _
      | exact slices_Max_int_int.mono _ _
      | exact slices_Min_int_int.mono _ _
      | exact LeO.none _
      | refine LeO.ite ?_ ?_
      | refine LeO.bind ?_ (fun _ => ?_)
set_option maxHeartbeats 8000000 in
set_option maxRecDepth 100000 in
theorem impl_RingsBefore.calls (k : Nat) (A0 : Option Addr) (c0 : Nat) (l0 : List Int) (r1 : List (List Int)) (r2 : Bool) (w : World) (hr0 : Kd.C (Kd.int .i64) w A0 l0.length l0) (hc0 : l0.length ≤ c0) (h : impl_RingsBefore.f k l0 = some (r1, r2)) :
    Calls Try.prog 26 #[.slice A0 l0.length c0] w fun e w' => ∃ v0_ : Value, e = .returned (.tuple #[v0_, .bool r2]) ∧ Kd.S (Kd.slice 3 (Kd.int .i64)) 22 w' w.heap.size (fun _ => True) v0_ r1 ∧ Below w.heap.size w w' := by
  have HR0 := Aside0.mk hr0
  have HC0 := Aside0.mk hc0
  clear hr0 hc0
  have HB := Aside0.mk (Below.refl w.heap.size w)
  have H : ((impl_IsRing.f l0).bind fun t107 => (if t107 = true then ((slices_Max_int_int.f k l0).bind fun t108 => (impl_RingsBefore.j0 k l0 (decide (t108 > 100)))) else (impl_RingsBefore.j0 k l0 true))) = some (r1, r2) := h
  clear h
  have HC2 := Aside0.mk H
  clear H
  go_enter Try.func26, Try.ntmps26
  go_upto_region 1 with (fail)
  go_cut [19] (fun v19 wc => ∃ (kq : Nat) (x19_1 : Bool), v19 = .bool x19_1 ∧ Aside0 (impl_RingsBefore.j0 kq l0 x19_1 = some (r1, r2)) ∧ Aside0 (kq ≤ k) ∧ Aside0 (Below w.heap.size w wc))
  case first =>
    have H := HC2.out
    clear HC2
    replace H := Option.bind_eq_some_iff.mp H
    obtain ⟨t107, A30, H⟩ := H
    replace H : (if t107 = true then ((slices_Max_int_int.f k l0).bind fun t108 => (impl_RingsBefore.j0 k l0 (decide (t108 > 100)))) else (impl_RingsBefore.j0 k l0 true)) = some (r1, r2) := H
    have A3 := Aside0.mk A30
    clear A30
    by_cases c4 : t107 = true
    · subst c4
      have H1 : ((slices_Max_int_int.f k l0).bind fun t108 => (impl_RingsBefore.j0 k l0 (decide (t108 > 100)))) = some (r1, r2) := by rw [if_pos rfl] at H; exact H
      clear H
      have H := H1
      clear H1
      replace H := Option.bind_eq_some_iff.mp H
      obtain ⟨t108, A50, H⟩ := H
      replace H : (impl_RingsBefore.j0 k l0 (decide (t108 > 100))) = some (r1, r2) := H
      have A5 := Aside0.mk A50
      clear A50
      have H' := Aside0.mk H
      clear H
      go_wp2_with (first | ((with_reducible refine gate_callee (f := 43) rfl ?_); refine goesL_ (some 13) rfl rfl Try.func43 (by kernel_rfl) rfl #[.slice A0 l0.length c0] rfl (by (try simp only [List.map_toArray, List.map_cons, List.map_nil]); first | done | rfl | (simp only [List.length_drop, List.length_take]; rfl)) ?_; (with_reducible refine (impl_IsRing.calls _ _ l0 true _ ?side1 ?side2 A3.out).mono ?_); (case side1 => repeat (first | exact (Kd.C_below HR0.out HB.out) | (with_reducible refine Kd.C_alloc ?_ _) | (with_reducible refine Kd.C_drewN ?_ _) | (with_reducible refine Kd.C_drew ?_))); (case side2 => exact HC0.out); rintro e w6 ⟨rfl, hb⟩; refine ⟨_, rfl, ?_⟩; have n0_ := Aside0.mk (below_step (by repeat (first | (with_reducible first | exact HB.out | apply below_alloc | apply pw_below_drewN | apply below_drew1) | exact HB.out)) hb); clear HB; have HB := n0_; clear n0_; (try clear hb); (try clear hb2); (try clear hk); (try clear hi)) | (go_at_call 44; (with_reducible refine (slices_Max_int_int.calls k _ _ l0 t108 _ ?side1 ?side2 A5.out).mono ?_); (case side1 => repeat (first | exact (Kd.C_below HR0.out HB.out) | (with_reducible refine Kd.C_alloc ?_ _) | (with_reducible refine Kd.C_drewN ?_ _) | (with_reducible refine Kd.C_drew ?_))); (case side2 => exact HC0.out); rintro e w7 ⟨rfl, hb⟩; have n0_ := Aside0.mk (below_step (by repeat (first | (with_reducible first | exact HB.out | apply below_alloc | apply pw_below_drewN | apply below_drew1) | exact HB.out)) hb); clear HB; have HB := n0_; clear n0_; (try clear hb); (try clear hb2); (try clear hk); (try clear hi)))
      go_meet
      case rel => exact ⟨_, (decide (t108 > 100)), (by first | rfl | (simp; done) | (simp [*]; done)), H', ⟨by first | omega | exact Nat.le_refl _⟩, ⟨by repeat (first | (with_reducible first | exact HB.out | apply below_alloc | apply pw_below_drewN | apply below_drew1) | exact HB.out)⟩⟩
    · replace c4 := Bool.eq_false_iff.mpr c4
      subst c4
      have H1 : (impl_RingsBefore.j0 k l0 true) = some (r1, r2) := by rw [if_neg (show ¬ (false = true) by decide)] at H; exact H
      clear H
      have H := H1
      clear H1
      have H' := Aside0.mk H
      clear H
      go_wp2_with (first | ((with_reducible refine gate_callee (f := 43) rfl ?_); refine goesL_ (some 13) rfl rfl Try.func43 (by kernel_rfl) rfl #[.slice A0 l0.length c0] rfl (by (try simp only [List.map_toArray, List.map_cons, List.map_nil]); first | done | rfl | (simp only [List.length_drop, List.length_take]; rfl)) ?_; (with_reducible refine (impl_IsRing.calls _ _ l0 false _ ?side1 ?side2 A3.out).mono ?_); (case side1 => repeat (first | exact (Kd.C_below HR0.out HB.out) | (with_reducible refine Kd.C_alloc ?_ _) | (with_reducible refine Kd.C_drewN ?_ _) | (with_reducible refine Kd.C_drew ?_))); (case side2 => exact HC0.out); rintro e w8 ⟨rfl, hb⟩; refine ⟨_, rfl, ?_⟩; have n0_ := Aside0.mk (below_step (by repeat (first | (with_reducible first | exact HB.out | apply below_alloc | apply pw_below_drewN | apply below_drew1) | exact HB.out)) hb); clear HB; have HB := n0_; clear n0_; (try clear hb); (try clear hb2); (try clear hk); (try clear hi)))
      go_meet
      case rel => exact ⟨_, (true), (by first | rfl | (simp; done) | (simp [*]; done)), H', ⟨by first | omega | exact Nat.le_refl _⟩, ⟨by repeat (first | (with_reducible first | exact HB.out | apply below_alloc | apply pw_below_drewN | apply below_drew1) | exact HB.out)⟩⟩
  case rest =>
    clear HC2
    try clear p2
    try clear c4
    try clear c5
    obtain ⟨kq, x19_1, rfl, HA, HJ1, HB⟩ := hcut
    cases kq with
    | zero => exact absurd HA.out (by simp [impl_RingsBefore.j0])
    | succ kj1 =>
      have H := HA.out
      clear HA
      simp only [impl_RingsBefore.j0] at H
      by_cases c9 : x19_1 = true
      · subst c9
        have H1 : (some (([] : List (List Int)), false)) = some (r1, r2) := by rw [if_pos rfl] at H; exact H
        clear H
        have H := H1
        clear H1
        simp only [Option.some.injEq, Prod.mk.injEq] at H
        obtain ⟨rfl, rfl⟩ := H
        go_wp2
        go_ret2
        exact ⟨_, by first | rfl | (simp [errW_none, errW_some] <;> rfl) | (simp [*, errW_none, errW_some] <;> rfl), by first | exact Kd.S_nil _ _ _ _ _ | exact Kd.N_nil _ _ _ _ _ | exact Kd.V_nil _ _ _ _ _ | exact Kd.Q_nil _ _ _ _ _ | exact Kd.R_nil _ _ _ _ _, by repeat (first | (with_reducible first | exact HB.out | apply below_alloc | apply pw_below_drewN | apply below_drew1) | exact HB.out)⟩
      · replace c9 := Bool.eq_false_iff.mpr c9
        subst c9
        have H1 : (impl_RingsBefore.l0 kj1 l0 (([] : List (List Int))) (shl .i64 1 (l0.length : Int)) 0) = some (r1, r2) := by rw [if_neg (show ¬ (false = true) by decide)] at H; exact H
        clear H
        have H := H1
        clear H1
        obtain ⟨y109, hy109⟩ : ∃ y_ : List (List Int), y_ = (([] : List (List Int))) := ⟨_, rfl⟩
        replace H : (impl_RingsBefore.l0 kj1 l0 y109 (shl .i64 1 (l0.length : Int)) 0) = some (r1, r2) := by first | (rw [hy109]; with_reducible exact H) | (have H2_ := (Option.bind_some _ _).symm.trans H; rw [hy109]; with_reducible exact H2_) | (have H2_ := (Option.bind_some _ _).symm.trans H; with_reducible exact H2_) | with_reducible exact H | (rw [hy109]; exact H) | exact H
        have Ny109 := Aside0.mk hy109
        clear hy109
        obtain ⟨ji10, hji10⟩ : ∃ j_ : Int, (shl .i64 1 (l0.length : Int)) = j_ := ⟨_, rfl⟩
        replace H : (impl_RingsBefore.l0 kj1 l0 y109 ji10 0) = some (r1, r2) := by first | (rw [hji10] at H; exact H) | (simp only [hji10] at H ⊢; exact H)
        have hji10_ : (IntKind.i64.wrap (1 * 2 ^ min (l0.length : Int).toNat 64)) = ji10 := hji10
        have hji10z : (l0.length : Int) ≤ 64 → (IntKind.i64.wrap (1 * 2 ^ (l0.length : Int).toNat)) = ji10 := shl_small hji10
        have hji10p : (IntKind.i64.wrap (1 * 2 ^ min l0.length 64)) = ji10 := hji10_
        have hji10q : (l0.length : Int) ≤ 64 → (IntKind.i64.wrap (1 * 2 ^ l0.length)) = ji10 := hji10z
        have hji10r : (IntKind.i64.wrap (2 ^ min l0.length 64)) = ji10 := by have h_ := hji10p; rw [Int.one_mul] at h_; exact h_
        have hji10s : (l0.length : Int) ≤ 64 → (IntKind.i64.wrap (2 ^ l0.length)) = ji10 := fun hle_ => by have h_ := hji10q hle_; rw [Int.one_mul] at h_; exact h_
        have hji10u : (IntKind.i64.wrap (2 ^ min (l0.length : Int).toNat 64)) = ji10 := by have h_ := hji10_; rw [Int.one_mul] at h_; exact h_
        have hji10v : (l0.length : Int) ≤ 64 → (IntKind.i64.wrap (2 ^ (l0.length : Int).toNat)) = ji10 := fun hle_ => by have h_ := hji10z hle_; rw [Int.one_mul] at h_; exact h_
        have hji10y : (wrap64 (1 * 2 ^ min (l0.length : Int).toNat 64)) = ji10 := (i64_w _).symm.trans hji10_
        have hji10x : (l0.length : Int) ≤ 64 → (wrap64 (1 * 2 ^ (l0.length : Int).toNat)) = ji10 := fun h_ => (i64_w _).symm.trans (hji10z h_)
        have H' := Aside0.mk H
        clear H
        go_wp2_with (first | ((with_reducible refine gate_dst (N := 20) rfl ?_); refine Kd.S_lit (Kd.slice 3 (Kd.int .i64)) _ 22 ?hg (N := 20) ?hd (xs := ([] : List (List Int))) (inner := []) (ok := fun _ => True) (okp := fun _ => True) ?hr ?hp (fun _ hk => hk) trivial (Below.refl _ _) (Nat.le_refl _) (by simp) ?_; (case hd => rfl); (case hg => rfl); (case hr => first | (go_simp; done) | (go_simp; rfl)); (case hp => exact (Reps.none _ _)); intro v110 w11 ho12 hb hg_ hnew_; clear hg_ hnew_; (first | rw [← Ny109.out] at ho12 | (simp only [Int.reduceToNat] at ho12; rw [← Ny109.out] at ho12)); have n0_ := Aside0.mk (Kd.S_lower ho12 (below_size (by repeat (first | (with_reducible first | exact HB.out | apply below_alloc | apply pw_below_drewN | apply below_drew1) | exact HB.out)))); have n1_ := Aside0.mk (below_step (by repeat (first | (with_reducible first | exact HB.out | apply below_alloc | apply pw_below_drewN | apply below_drew1) | exact HB.out)) hb); clear HB; have HO111 := n0_; have HB := n1_; clear n0_ n1_; clear hb ho12))
        go_loopg [4, 24] kj1 (fun kq v4 v24 w' => ∃ (x4_2 : List (List Int)) (x24_2 : Int), v24 = .int .i64 x24_2 ∧ Aside0 (impl_RingsBefore.l0 kq l0 x4_2 ji10 x24_2 = some (r1, r2)) ∧ Aside0 (kq ≤ kj1) ∧ Aside0 (Kd.S (Kd.slice 3 (Kd.int .i64)) 22 w' w.heap.size (fun _ => True) v4 x4_2) ∧ Aside0 (Below w.heap.size w w'))
        case atStart => exact ⟨(y109), (0), (by first | rfl | (simp; done) | (simp [*]; done)), H', ⟨Nat.le_refl _⟩, ⟨by (with_reducible repeat (first | apply Kd.S_alloc | apply Kd.S_drewN | apply Kd.S_drew)); exact HO111.out⟩, ⟨by repeat (first | (with_reducible first | exact HB.out | apply below_alloc | apply pw_below_drewN | apply below_drew1) | exact HB.out)⟩⟩
        case round =>
          clear H'
          try clear p2
          try clear c4
          try clear c5
          try clear p6
          try clear c9
          try clear p2
          obtain ⟨x4_2, x24_2, rfl, HA, HK2, HO_4, HB⟩ := hrel
          cases gk with
          | zero => exact absurd HA.out (by simp [impl_RingsBefore.l0])
          | succ k2 =>
            have H := HA.out
            clear HA
            simp only [impl_RingsBefore.l0] at H
            by_cases c13 : x24_2 < ji10
            · rw [if_pos c13] at H
              have c13b0 : decide (x24_2 < ji10) = true := decide_eq_true c13
              clear c13
              obtain ⟨y112, hy112⟩ : ∃ y_ : List Int, y_ = (([] : List Int)) := ⟨_, rfl⟩
              replace H : (impl_RingsBefore.l1 k2 l0 x4_2 x24_2 y112 0 ji10 x24_2 l0 (l0.length : Int) 0) = some (r1, r2) := by first | (rw [hy112]; with_reducible exact H) | (have H2_ := (Option.bind_some _ _).symm.trans H; rw [hy112]; with_reducible exact H2_) | (have H2_ := (Option.bind_some _ _).symm.trans H; with_reducible exact H2_) | with_reducible exact H | (rw [hy112]; exact H) | exact H
              have Ny112 := Aside0.mk hy112
              clear hy112
              have H' := Aside0.mk H
              clear H
              go_wp2_with (first | ((with_reducible refine gate_dst (N := 27) rfl ?_); refine Kd.R_lit (Kd.int .i64) _ 3 ?hg (N := 27) ?hd (xs := ([] : List Int)) (inner := []) (ok := fun _ => True) (okp := fun _ => True) ?hr ?hp (fun _ hk => hk) trivial (Below.refl _ _) (Nat.le_refl _) (by simp) ?_; (case hd => rfl); (case hg => rfl); (case hr => first | (go_simp; done) | (go_simp; rfl)); (case hp => exact (Reps.none _ _)); intro v113 w14 ho15 hb hg_ hnew_; clear hg_ hnew_; (first | rw [← Ny112.out] at ho15 | (simp only [Int.reduceToNat] at ho15; rw [← Ny112.out] at ho15)); have n0_ := Aside0.mk (Kd.S_elder' (by (with_reducible repeat (first | apply Kd.S_alloc | apply Kd.S_drewN | apply Kd.S_drew)); exact HO_4.out) (Kd.R_base ho15) hb); have n1_ := Aside0.mk (Kd.R_lower ho15 (below_size (by repeat (first | (with_reducible first | exact HB.out | apply below_alloc | apply pw_below_drewN | apply below_drew1) | exact HB.out)))); have n2_ := Aside0.mk (below_step (by repeat (first | (with_reducible first | exact HB.out | apply below_alloc | apply pw_below_drewN | apply below_drew1) | exact HB.out)) hb); clear HO_4; clear HB; have HO_4 := n0_; have HO114 := n1_; have HB := n2_; clear n0_ n1_ n2_; clear hb ho15))
              go_loopg [6, 7, 30] k2 (fun kq v6 v7 v30 w' => ∃ (x6_3 : List Int) (x7_3 : Int) (x30_3 : Int), v7 = .int .i64 x7_3 ∧ v30 = .int .i64 x30_3 ∧ Aside0 (impl_RingsBefore.l1 kq l0 x4_2 x24_2 x6_3 x7_3 ji10 x24_2 l0 (l0.length : Int) x30_3 = some (r1, r2)) ∧ Aside0 (kq ≤ k2) ∧ Aside0 (Kd.S (Kd.slice 3 (Kd.int .i64)) 22 w' w.heap.size (fun k_ => some k_ ≠ (v6 : Value).ownBlock) u4 x4_2) ∧ Aside0 (Kd.R (Kd.int .i64) 3 w' w.heap.size (fun _ => True) v6 x6_3) ∧ Aside0 (Below w.heap.size w w'))
              case atStart => exact ⟨(y112), (0), (0), (by first | rfl | (simp; done) | (simp [*]; done)), (by first | rfl | (simp; done) | (simp [*]; done)), H', ⟨Nat.le_refl _⟩, ⟨by (with_reducible repeat (first | apply Kd.S_alloc | apply Kd.S_drewN | apply Kd.S_drew)); exact Kd.S_mono HO_4.out (fun _ hk => hk.2)⟩, ⟨by (with_reducible repeat (first | apply Kd.R_alloc | apply Kd.R_drewN | apply Kd.R_drew)); exact HO114.out⟩, ⟨by repeat (first | (with_reducible first | exact HB.out | apply below_alloc | apply pw_below_drewN | apply below_drew1) | exact HB.out)⟩⟩
              case round =>
                clear H'
                try clear c1
                try clear p2
                try clear c4
                try clear c5
                try clear p6
                try clear c9
                try clear c13
                try clear c13b0
                try clear p2
                try clear p6
                obtain ⟨x6_3, x7_3, x30_3, rfl, rfl, HA, HK3, HO_4, HO_6, HB⟩ := hrel
                cases gk with
                | zero => exact absurd HA.out (by simp [impl_RingsBefore.l1])
                | succ k3 =>
                  have H := HA.out
                  clear HA
                  simp only [impl_RingsBefore.l1] at H
                  by_cases c16 : x30_3 < (l0.length : Int)
                  · rw [if_pos c16] at H
                    have c16b0 : decide (x30_3 < (l0.length : Int)) = true := decide_eq_true c16
                    clear c16
                    by_cases c17 : 0 ≤ x30_3
                    · rw [if_pos c17] at H
                      have c17b0 : decide (0 ≤ x30_3) = true := decide_eq_true c17
                      clear c17
                      by_cases c18 : x30_3 < (l0.length : Int)
                      · rw [if_pos c18] at H
                        have c18b0 : decide (x30_3 < (l0.length : Int)) = true := decide_eq_true c18
                        clear c18
                        by_cases c19 : x6_3.length < 17592186044416
                        · rw [if_pos c19] at H
                          have LMc19 := Aside0.mk c19
                          clear c19
                          obtain ⟨y116, hy116⟩ : ∃ y_ : List Int, y_ = (x6_3 ++ [x7_3]) := ⟨_, rfl⟩
                          replace H : (if (Go.bits .and .i64 (shr .i64 x24_2 x30_3) 1) = 1 then (impl_RingsBefore.l1 k3 l0 x4_2 x24_2 y116 (wrap64 (x7_3 + (wrap64 (-(rd l0 x30_3))))) ji10 x24_2 l0 (l0.length : Int) (wrap64 (x30_3 + 1))) else (impl_RingsBefore.l1 k3 l0 x4_2 x24_2 y116 (wrap64 (x7_3 + (rd l0 x30_3))) ji10 x24_2 l0 (l0.length : Int) (wrap64 (x30_3 + 1)))) = some (r1, r2) := by first | (rw [hy116]; with_reducible exact H) | (have H2_ := (Option.bind_some _ _).symm.trans H; rw [hy116]; with_reducible exact H2_) | (have H2_ := (Option.bind_some _ _).symm.trans H; with_reducible exact H2_) | with_reducible exact H | (rw [hy116]; exact H) | exact H
                          have Ny116 := Aside0.mk hy116
                          clear hy116
                          have c20b0 := eq_true (of_decide_eq_true (by first | (with_reducible assumption) | assumption) : 0 ≤ x30_3)
                          obtain ⟨ji21, hji21⟩ : ∃ j_ : Int, (shr .i64 x24_2 x30_3) = j_ := ⟨_, rfl⟩
                          replace H : (if (Go.bits .and .i64 (ji21) 1) = 1 then (impl_RingsBefore.l1 k3 l0 x4_2 x24_2 y116 (wrap64 (x7_3 + (wrap64 (-(rd l0 x30_3))))) ji10 x24_2 l0 (l0.length : Int) (wrap64 (x30_3 + 1))) else (impl_RingsBefore.l1 k3 l0 x4_2 x24_2 y116 (wrap64 (x7_3 + (rd l0 x30_3))) ji10 x24_2 l0 (l0.length : Int) (wrap64 (x30_3 + 1)))) = some (r1, r2) := by first | (rw [hji21] at H; exact H) | (simp only [hji21] at H ⊢; exact H)
                          have hji21_ : (x24_2 / 2 ^ min x30_3.toNat 64) = ji21 := hji21
                          have hji21z : x30_3 ≤ 64 → (x24_2 / 2 ^ x30_3.toNat) = ji21 := shr_small hji21
                          by_cases c22 : (Go.bits .and .i64 (ji21) 1) = 1
                          · rw [if_pos c22] at H
                            have c22b0 : ((Go.bits .and .i64 (ji21) 1) == 1) = true := beq_iff_eq.mpr c22
                            have c22b1 : ((Go.bits .and .i64 (ji21) 1) != 1) = false := bne_eq_false_iff_eq.mpr c22
                            clear c22
                            have H' := Aside0.mk H
                            clear H
                            have p115 : 0 ≤ (x30_3 : Int) := of_decide_eq_true (by first | (with_reducible assumption) | assumption)
                            have q115 : x30_3 < (l0.length : Int) := of_decide_eq_true (by first | (with_reducible assumption) | assumption)
                            obtain ⟨ad115, e115, hx115_0⟩ := Kd.at_int HR0.out x30_3 p115 q115
                            cases e115
                            replace hx115_0 := (HB.out.cell (World.block_lt_of_cell? w _ hx115_0)).trans hx115_0
                            replace p115 := eq_true p115
                            replace q115 := eq_true q115
                            go_wp2_with (first | ((with_reducible refine gate_builtin (b := .append) (xs := #[.tmp 35, .tmp 37]) rfl ?_); at_builtin; refine Kd.R_append (Kd.int .i64) (w0 := w) w.heap.size rfl (.tmp 35) (.tmp 37) 22 3 (.int .i64 0) 8 rfl Try.underlying22 info3 rfl (by decide) (by omega) u6 x6_3 x7_3 [.int .i64 x7_3] (fun _ => True) (fun _ => False) rfl rfl ?aP (fun _ hk => hk.elim) ?aF ?aO ?aB ?aS ?aL ?_; (case aP => exact rfl); (case aB => exact (by repeat (first | (with_reducible first | exact HB.out | apply below_alloc | apply pw_below_drewN | apply below_drew1) | exact HB.out))); (case aF => exact (fun _ _ => trivial)); (case aO => exact (by (with_reducible repeat (first | apply Kd.R_alloc | apply Kd.R_drewN | apply Kd.R_drew)); exact HO_6.out)); (case aS => exact (below_size (by repeat (first | (with_reducible first | exact HB.out | apply below_alloc | apply pw_below_drewN | apply below_drew1) | exact HB.out)))); (case aL => have := LMc19.out; omega); intro v117 w23 ho hb hg hat; rw [← Ny116.out] at ho; have n0_ := Aside0.mk (Kd.S_after (ok := (fun _ => True)) (by (with_reducible repeat (first | apply Kd.S_alloc | apply Kd.S_drewN | apply Kd.S_drew)); exact Kd.S_mono HO_4.out (fun _ hk => ⟨trivial, hk⟩)) hg hat); have n1_ := Aside0.mk (hb); have n2_ := Aside0.mk (ho); clear HO_4; clear HB; clear HO_6; have HO_4 := n0_; have HB := n1_; have HO118 := n2_; clear n0_ n1_ n2_; clear ho hb hg hat))
                            go_roundg k3
                            case measure => have := HJ1.out; have := HK2.out; have := HK3.out; omega
                            case rel => exact ⟨(y116), (wrap64 (x7_3 + (wrap64 (-(rd l0 x30_3))))), (wrap64 (x30_3 + 1)), (by first | rfl | (simp; done) | (simp [*]; done)), (by first | rfl | (simp; done) | (simp [*]; done)), H', ⟨by have := HJ1.out; have := HK2.out; have := HK3.out; omega⟩, ⟨by (with_reducible repeat (first | apply Kd.S_alloc | apply Kd.S_drewN | apply Kd.S_drew)); exact Kd.S_mono HO_4.out (fun _ hk => hk.2)⟩, ⟨by (with_reducible repeat (first | apply Kd.R_alloc | apply Kd.R_drewN | apply Kd.R_drew)); exact HO118.out⟩, ⟨by repeat (first | (with_reducible first | exact HB.out | apply below_alloc | apply pw_below_drewN | apply below_drew1) | exact HB.out)⟩⟩
                          · rw [if_neg c22] at H
                            have c22b0 : ((Go.bits .and .i64 (ji21) 1) == 1) = false := beq_eq_false_iff_ne.mpr c22
                            have c22b1 : ((Go.bits .and .i64 (ji21) 1) != 1) = true := bne_iff_ne.mpr c22
                            have H' := Aside0.mk H
                            clear H
                            have p115 : 0 ≤ (x30_3 : Int) := of_decide_eq_true (by first | (with_reducible assumption) | assumption)
                            have q115 : x30_3 < (l0.length : Int) := of_decide_eq_true (by first | (with_reducible assumption) | assumption)
                            obtain ⟨ad115, e115, hx115_0⟩ := Kd.at_int HR0.out x30_3 p115 q115
                            cases e115
                            replace hx115_0 := (HB.out.cell (World.block_lt_of_cell? w _ hx115_0)).trans hx115_0
                            replace p115 := eq_true p115
                            replace q115 := eq_true q115
                            go_wp2_with (first | ((with_reducible refine gate_builtin (b := .append) (xs := #[.tmp 35, .tmp 37]) rfl ?_); at_builtin; refine Kd.R_append (Kd.int .i64) (w0 := w) w.heap.size rfl (.tmp 35) (.tmp 37) 22 3 (.int .i64 0) 8 rfl Try.underlying22 info3 rfl (by decide) (by omega) u6 x6_3 x7_3 [.int .i64 x7_3] (fun _ => True) (fun _ => False) rfl rfl ?aP (fun _ hk => hk.elim) ?aF ?aO ?aB ?aS ?aL ?_; (case aP => exact rfl); (case aB => exact (by repeat (first | (with_reducible first | exact HB.out | apply below_alloc | apply pw_below_drewN | apply below_drew1) | exact HB.out))); (case aF => exact (fun _ _ => trivial)); (case aO => exact (by (with_reducible repeat (first | apply Kd.R_alloc | apply Kd.R_drewN | apply Kd.R_drew)); exact HO_6.out)); (case aS => exact (below_size (by repeat (first | (with_reducible first | exact HB.out | apply below_alloc | apply pw_below_drewN | apply below_drew1) | exact HB.out)))); (case aL => have := LMc19.out; omega); intro v117 w24 ho hb hg hat; rw [← Ny116.out] at ho; have n0_ := Aside0.mk (Kd.S_after (ok := (fun _ => True)) (by (with_reducible repeat (first | apply Kd.S_alloc | apply Kd.S_drewN | apply Kd.S_drew)); exact Kd.S_mono HO_4.out (fun _ hk => ⟨trivial, hk⟩)) hg hat); have n1_ := Aside0.mk (hb); have n2_ := Aside0.mk (ho); clear HO_4; clear HB; clear HO_6; have HO_4 := n0_; have HB := n1_; have HO118 := n2_; clear n0_ n1_ n2_; clear ho hb hg hat))
                            go_roundg k3
                            case measure => have := HJ1.out; have := HK2.out; have := HK3.out; omega
                            case rel => exact ⟨(y116), (wrap64 (x7_3 + (rd l0 x30_3))), (wrap64 (x30_3 + 1)), (by first | rfl | (simp; done) | (simp [*]; done)), (by first | rfl | (simp; done) | (simp [*]; done)), H', ⟨by have := HJ1.out; have := HK2.out; have := HK3.out; omega⟩, ⟨by (with_reducible repeat (first | apply Kd.S_alloc | apply Kd.S_drewN | apply Kd.S_drew)); exact Kd.S_mono HO_4.out (fun _ hk => hk.2)⟩, ⟨by (with_reducible repeat (first | apply Kd.R_alloc | apply Kd.R_drewN | apply Kd.R_drew)); exact HO118.out⟩, ⟨by repeat (first | (with_reducible first | exact HB.out | apply below_alloc | apply pw_below_drewN | apply below_drew1) | exact HB.out)⟩⟩
                        · rw [if_neg c19] at H
                          exact absurd H (by simp)
                      · rw [if_neg c18] at H
                        exact absurd H (by simp)
                    · rw [if_neg c17] at H
                      exact absurd H (by simp)
                  · rw [if_neg c16] at H
                    have c16b0 : decide (x30_3 < (l0.length : Int)) = false := decide_eq_false c16
                    clear c16
                    by_cases c25 : x7_3 = 0
                    · rw [if_pos c25] at H
                      have c25b0 : (x7_3 == 0) = true := beq_iff_eq.mpr c25
                      have c25b1 : (x7_3 != 0) = false := bne_eq_false_iff_eq.mpr c25
                      clear c25
                      replace H := Option.bind_eq_some_iff.mp H
                      obtain ⟨t119, A260, H⟩ := H
                      replace H : (impl_RingsBefore.l2 k3 l0 x4_2 x6_3 t119 ji10 x24_2 (x6_3.length : Int) 0) = some (r1, r2) := H
                      have A26 := Aside0.mk A260
                      clear A260
                      have H' := Aside0.mk H
                      clear H
                      obtain ⟨Ao27, co27, eo27⟩ := Kd.R_slice HO_6.out
                      subst eo27
                      go_wp2_with (first | ((with_reducible refine gate_callee (f := 45) rfl ?_); refine goesL_ (some 53) rfl rfl Try.func45 (by kernel_rfl) rfl #[.slice Ao27 x6_3.length co27] rfl (by (try simp only [List.map_toArray, List.map_cons, List.map_nil]); first | done | rfl | (simp only [List.length_drop, List.length_take]; rfl)) ?_; (with_reducible refine (slices_Min_int_int.calls k3 _ _ x6_3 t119 _ ?side1 ?side2 A26.out).mono ?_); (case side1 => repeat (first | exact (Kd.R_reads' HO_6.out).2.2 | (with_reducible refine Kd.C_alloc ?_ _) | (with_reducible refine Kd.C_drewN ?_ _) | (with_reducible refine Kd.C_drew ?_))); (case side2 => exact (Kd.R_reads' HO_6.out).2.1); rintro e w28 ⟨rfl, hb⟩; refine ⟨_, rfl, ?_⟩; have n0_ := Aside0.mk (Kd.S_below (by (with_reducible repeat (first | apply Kd.S_alloc | apply Kd.S_drewN | apply Kd.S_drew)); exact HO_4.out) hb); have n1_ := Aside0.mk (Kd.R_below (by (with_reducible repeat (first | apply Kd.R_alloc | apply Kd.R_drewN | apply Kd.R_drew)); exact HO_6.out) hb); have n2_ := Aside0.mk (below_step (by repeat (first | (with_reducible first | exact HB.out | apply below_alloc | apply pw_below_drewN | apply below_drew1) | exact HB.out)) hb); clear HO_4; clear HO_6; clear HB; have HO_4 := n0_; have HO_6 := n1_; have HB := n2_; clear n0_ n1_ n2_; (try clear hb); (try clear hb2); (try clear hk); (try clear hi)))
                      go_loopg [56] k3 (fun kq v56 w' => ∃ (x6_4 : List Int) (x56_4 : Int), v56 = .int .i64 x56_4 ∧ Aside0 (impl_RingsBefore.l2 kq l0 x4_2 x6_4 t119 ji10 x24_2 (x6_3.length : Int) x56_4 = some (r1, r2)) ∧ Aside0 (kq ≤ k3) ∧ Aside0 (Kd.S (Kd.slice 3 (Kd.int .i64)) 22 w' w.heap.size (fun k_ => some k_ ≠ ((.slice Ao27 x6_3.length co27) : Value).ownBlock) u4 x4_2) ∧ Aside0 (Kd.R (Kd.int .i64) 3 w' w.heap.size (fun _ => True) (.slice Ao27 x6_3.length co27) x6_4) ∧ Aside0 (Below w.heap.size w w'))
                      case atStart => exact ⟨(x6_3), (0), (by first | rfl | (simp; done) | (simp [*]; done)), H', ⟨Nat.le_refl _⟩, ⟨by (with_reducible repeat (first | apply Kd.S_alloc | apply Kd.S_drewN | apply Kd.S_drew)); exact HO_4.out⟩, ⟨by (with_reducible repeat (first | apply Kd.R_alloc | apply Kd.R_drewN | apply Kd.R_drew)); exact HO_6.out⟩, ⟨by repeat (first | (with_reducible first | exact HB.out | apply below_alloc | apply pw_below_drewN | apply below_drew1) | exact HB.out)⟩⟩
                      case round =>
                        clear H'
                        try clear c1
                        try clear p1
                        try clear q1
                        try clear hx1
                        try clear c2
                        try clear p2
                        try clear c4
                        try clear c5
                        try clear p6
                        try clear c7
                        try clear c9
                        try clear p11
                        try clear q11
                        try clear hx11
                        try clear c13
                        try clear c13b0
                        try clear c16
                        try clear c16b0
                        try clear c17
                        try clear c17b0
                        try clear c18
                        try clear c18b0
                        try clear c19
                        try clear c20
                        try clear c20b0
                        try clear c22
                        try clear c22b0
                        try clear c22b1
                        try clear c25
                        try clear c25b0
                        try clear c25b1
                        try clear hx115_0
                        try clear p115
                        try clear p2
                        try clear p6
                        try clear q115
                        obtain ⟨x6_4, x56_4, rfl, HA, HK4, HO_4, HO_6, HB⟩ := hrel
                        have HL6 := Aside0.mk (Kd.R_reads' HO_6.out).1
                        cases gk with
                        | zero => exact absurd HA.out (by simp [impl_RingsBefore.l2])
                        | succ k4 =>
                          have H := HA.out
                          clear HA
                          simp only [impl_RingsBefore.l2] at H
                          by_cases c29 : x56_4 < (x6_3.length : Int)
                          · rw [if_pos c29] at H
                            have c29b0 : decide (x56_4 < (x6_3.length : Int)) = true := decide_eq_true c29
                            clear c29
                            by_cases c30 : 0 ≤ x56_4
                            · rw [if_pos c30] at H
                              have c30b0 : decide (0 ≤ x56_4) = true := decide_eq_true c30
                              clear c30
                              by_cases c31 : x56_4 < (x6_4.length : Int)
                              · rw [if_pos c31] at H
                                have c31b0 : decide (x56_4 < (x6_4.length : Int)) = true := decide_eq_true c31
                                clear c31
                                obtain ⟨y121, hy121⟩ : ∃ y_ : List Int, y_ = (x6_4.set (x56_4 : Int).toNat (wrap64 ((rd x6_4 x56_4) - t119))) := ⟨_, rfl⟩
                                replace H : (impl_RingsBefore.l2 k4 l0 x4_2 y121 t119 ji10 x24_2 (x6_3.length : Int) (wrap64 (x56_4 + 1))) = some (r1, r2) := by first | (rw [hy121]; with_reducible exact H) | (have H2_ := (Option.bind_some _ _).symm.trans H; rw [hy121]; with_reducible exact H2_) | (have H2_ := (Option.bind_some _ _).symm.trans H; with_reducible exact H2_) | with_reducible exact H | (rw [hy121]; exact H) | exact H
                                have Ny121 := Aside0.mk hy121
                                clear hy121
                                have H' := Aside0.mk H
                                clear H
                                have p120 : 0 ≤ (x56_4 : Int) := of_decide_eq_true (by first | (with_reducible assumption) | assumption)
                                have q120 : x56_4 < (x6_4.length : Int) := of_decide_eq_true (by first | (with_reducible assumption) | assumption)
                                obtain ⟨ad120, e120, hx120_0⟩ := Kd.at_int (Kd.R_reads' HO_6.out).2.2 x56_4 p120 q120
                                cases e120
                                replace p120 := eq_true p120
                                replace q120 := eq_true q120
                                have p32 : 0 ≤ (x56_4 : Int) := of_decide_eq_true (by first | (with_reducible assumption) | assumption)
                                have q32 : (x56_4 : Int) < ((x6_3.length : Int) : Int) := of_decide_eq_true (by first | (with_reducible assumption) | assumption)
                                obtain ⟨go32, co32, eo32, gb32, gl32, cl32, HG32⟩ := Kd.R_form HO_6.out (by have := HL6.out; omega)
                                (first | cases eo32 | (injection eo32 with ea_ en_ ec_; (first | subst ea_ | (injection ea_ with ea_; subst ea_)); subst ec_; clear en_))
                                have GB32 := Aside0.mk gb32
                                have GG32 := Aside0.mk HG32
                                clear gb32 gl32 HG32
                                (first | simp only [add_plain] at hx120_0 | skip)
                                obtain ⟨hx32_0, hf32_0⟩ := Kd.R_celln 0 HO_6.out (x56_4 : Int) p32 q32
                                replace p32 := eq_true p32
                                replace q32 := eq_true q32
                                have HP33 := Kd.R_putg HO_6.out (x56_4 : Int) (wrap64 ((rd x6_4 x56_4) - t119))
                                go_wp2_with (first | ((with_reducible refine gate_store (t := 3) (p := 65) rfl ?_); refine store_event (t := 3) (p := 65) (v := ?vo_w34) (w1 := (wr.setCell ⟨go32, (x56_4 : Int).toNat, none⟩ (.int .i64 (wrap64 ((rd x6_4 x56_4) - t119))))) ?hg ?ho ?hn ?hr ?_; (case ho => rfl); (case hg => rfl); (case hn => rfl); (case hr => first | (go_simp; done) | (go_simp; rfl)); intro w34 hw; have hg : wr.grownBy w34 (some go32) := (by rw [hw]; exact HP33.2); have hp_ : Kd.R (Kd.int .i64) 3 w34 w.heap.size (fun _ => True) (.slice (some ⟨go32, 0, none⟩) x6_3.length co27) y121 := (by rw [hw, Ny121.out]; exact HP33.1); clear HP33; have n0_ := Aside0.mk (Kd.S_after (v := (.slice (some ⟨go32, 0, none⟩) x6_3.length co27)) (v1 := (.slice (some ⟨go32, 0, none⟩) x6_3.length co27)) (ok := (fun _ => True)) (by (with_reducible repeat (first | apply Kd.S_alloc | apply Kd.S_drewN | apply Kd.S_drew)); exact Kd.S_mono HO_4.out (fun _ hk => ⟨trivial, hk⟩)) hg (.inl rfl)); have n1_ := Aside0.mk (hp_); have n2_ := Aside0.mk ((by rw [hw]; exact below_set (HB.out) GB32.out : Below w.heap.size w w34)); clear HO_4; clear HO_6; clear HB; have HO_4 := n0_; have HO_6 := n1_; have HB := n2_; clear n0_ n1_ n2_; clear hg hw hp_))
                                go_roundg k4
                                case measure => have := HJ1.out; have := HK2.out; have := HK3.out; have := HK4.out; omega
                                case rel => exact ⟨(y121), (wrap64 (x56_4 + 1)), (by first | rfl | (simp; done) | (simp [*]; done)), H', ⟨by have := HJ1.out; have := HK2.out; have := HK3.out; have := HK4.out; omega⟩, ⟨by (with_reducible repeat (first | apply Kd.S_alloc | apply Kd.S_drewN | apply Kd.S_drew)); exact Kd.S_mono HO_4.out (fun _ hk => hk.2)⟩, ⟨by (with_reducible repeat (first | apply Kd.R_alloc | apply Kd.R_drewN | apply Kd.R_drew)); exact HO_6.out⟩, ⟨by repeat (first | (with_reducible first | exact HB.out | apply below_alloc | apply pw_below_drewN | apply below_drew1) | exact HB.out)⟩⟩
                              · rw [if_neg c31] at H
                                exact absurd H (by simp)
                            · rw [if_neg c30] at H
                              exact absurd H (by simp)
                          · rw [if_neg c29] at H
                            have c29b0 : decide (x56_4 < (x6_3.length : Int)) = false := decide_eq_false c29
                            clear c29
                            by_cases c35 : x4_2.length < 5864062014805
                            · rw [if_pos c35] at H
                              have LMc35 := Aside0.mk c35
                              clear c35
                              obtain ⟨y122, hy122⟩ : ∃ y_ : List (List Int), y_ = (x4_2 ++ [x6_4]) := ⟨_, rfl⟩
                              replace H : (impl_RingsBefore.l0 k4 l0 y122 ji10 (wrap64 (x24_2 + 1))) = some (r1, r2) := by first | (rw [hy122]; with_reducible exact H) | (have H2_ := (Option.bind_some _ _).symm.trans H; rw [hy122]; with_reducible exact H2_) | (have H2_ := (Option.bind_some _ _).symm.trans H; with_reducible exact H2_) | with_reducible exact H | (rw [hy122]; exact H) | exact H
                              have Ny122 := Aside0.mk hy122
                              clear hy122
                              have H' := Aside0.mk H
                              clear H
                              go_wp2_with (first | ((with_reducible refine gate_builtin (b := .append) (xs := #[.tmp 67, .tmp 69]) rfl ?_); at_builtin; refine Kd.S_append (Kd.slice 3 (Kd.int .i64)) (w0 := w) w.heap.size rfl (.tmp 67) (.tmp 69) 26 22 (.slice none 0 0) 24 rfl Try.underlying26 info22 rfl (by decide) (by omega) u4 x4_2 x6_4 [.slice Ao27 x6_3.length co27] (fun _ => True) (fun k_ => some k_ = (.slice Ao27 x6_3.length co27 : Value).ownBlock) rfl rfl ?aP (fun k_ hk_ => ((Kd.R_mono (ok' := fun k_ => ((fun _ => True)) k_ ∧ some k_ ≠ (u4 : Value).ownBlock) (Kd.R_apart' (HO_6.out) (Kd.S_typed HO_4.out) (by decide)) (fun k_ hk => ⟨trivial, hk.2⟩))).1 k_ hk_.symm) ?aF ?aO ?aB ?aS ?aL ?_; (case aP => exact Kd.M_row (Kd.R_mono (Kd.R_tight rfl (Kd.R_mono (ok' := fun k_ => ((fun _ => True)) k_ ∧ some k_ ≠ (u4 : Value).ownBlock) (Kd.R_apart' (HO_6.out) (Kd.S_typed HO_4.out) (by decide)) (fun k_ hk => ⟨trivial, hk.2⟩))) (fun _ h_ => h_))); (case aB => exact (by repeat (first | (with_reducible first | exact HB.out | apply below_alloc | apply pw_below_drewN | apply below_drew1) | exact HB.out))); (case aF => exact (fun _ _ => trivial)); (case aO => exact (by (with_reducible repeat (first | apply Kd.S_alloc | apply Kd.S_drewN | apply Kd.S_drew)); exact Kd.S_mono HO_4.out (fun k_ hk => ⟨trivial, fun e_ => hk e_⟩))); (case aS => exact (below_size (by repeat (first | (with_reducible first | exact HB.out | apply below_alloc | apply pw_below_drewN | apply below_drew1) | exact HB.out)))); (case aL => have := LMc35.out; omega); intro v123 w36 ho hb hg hat; rw [← Ny122.out] at ho; have n0_ := Aside0.mk (hb); have n1_ := Aside0.mk (ho); clear HB; clear HO_4; clear HO_6; have HB := n0_; have HO124 := n1_; clear n0_ n1_; clear ho hb hg hat))
                              go_roundg k4
                              case measure => have := HJ1.out; have := HK2.out; have := HK3.out; have := HK4.out; omega
                              case rel => exact ⟨(y122), (wrap64 (x24_2 + 1)), (by first | rfl | (simp; done) | (simp [*]; done)), H', ⟨by have := HJ1.out; have := HK2.out; have := HK3.out; have := HK4.out; omega⟩, ⟨by (with_reducible repeat (first | apply Kd.S_alloc | apply Kd.S_drewN | apply Kd.S_drew)); exact HO124.out⟩, ⟨by repeat (first | (with_reducible first | exact HB.out | apply below_alloc | apply pw_below_drewN | apply below_drew1) | exact HB.out)⟩⟩
                            · rw [if_neg c35] at H
                              exact absurd H (by simp)
                    · rw [if_neg c25] at H
                      have c25b0 : (x7_3 == 0) = false := beq_eq_false_iff_ne.mpr c25
                      have c25b1 : (x7_3 != 0) = true := bne_iff_ne.mpr c25
                      have H' := Aside0.mk H
                      clear H
                      go_wp2
                      go_roundg k3
                      case measure => have := HJ1.out; have := HK2.out; have := HK3.out; omega
                      case rel => exact ⟨(x4_2), (wrap64 (x24_2 + 1)), (by first | rfl | (simp; done) | (simp [*]; done)), H', ⟨by have := HJ1.out; have := HK2.out; have := HK3.out; omega⟩, ⟨by (with_reducible repeat (first | apply Kd.S_alloc | apply Kd.S_drewN | apply Kd.S_drew)); exact Kd.S_mono HO_4.out (fun _ hk => trivial)⟩, ⟨by repeat (first | (with_reducible first | exact HB.out | apply below_alloc | apply pw_below_drewN | apply below_drew1) | exact HB.out)⟩⟩
            · rw [if_neg c13] at H
              have c13b0 : decide (x24_2 < ji10) = false := decide_eq_false c13
              clear c13
              by_cases hfit : RB.fit x4_2 = true
              · rw [if_pos hfit] at H
                simp only [Option.some.injEq, Prod.mk.injEq] at H
                obtain ⟨rfl, rfl⟩ := H
                have HSR := Aside0.mk (Kd.S_R HO_4.out)
                obtain ⟨A4, c4, eq4⟩ := Kd.S_slice HO_4.out
                subst eq4
                have HT := Aside0.mk (RB.rows wr w.heap.size A4 c4 x4_2 HO_4.out hfit)
                clear HSR hfit
                go_wp2_with (first | (go_at_call 46; refine (HT.out).mono ?_; rintro e w40 ⟨rfl, ht⟩; have HT2 := Aside0.mk ht; clear HT ht) | (go_at_call 48; refine (HT2.out).mono ?_; rintro e w41 ⟨rfl, ht⟩; have HT3 := Aside0.mk ht; clear HT2 ht) | (go_at_call 50; refine (HT3.out).mono ?_; rintro e w42 ⟨v42, rfl, hs, hb⟩; have HS4 := Aside0.mk hs; have HB4 := Aside0.mk (hb _ HB.out.size HB.out); clear HT3 hs hb))
                go_ret2
                exact ⟨_, rfl, HS4.out, HB4.out⟩
              · rw [if_neg hfit] at H
                exact absurd H (by simp)


end Go.Proofs.Ytdiobgmdmeomjaa.PFnExactHasRingBefore
