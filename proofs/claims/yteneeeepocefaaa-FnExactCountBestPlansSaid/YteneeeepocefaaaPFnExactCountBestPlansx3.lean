-- Written by a program of this session (wip/tool/myprint.py) over the translation. Not trusted: Lean checks it.
import Derived.Test.YteneeeepocefaaaPFnExactCountBestPlansx0
import Derived.Test.YteneeeepocefaaaPFnExactCountBestPlansx2
namespace Go.Proofs.Yteneeeepocefaaa.PFnExactCountBestPlans
open Go.RowKit Go.Proofs.YteneeeepocefaaaW.PrintWords Go.Proofs.YteneeeepocefaaaW.PrintLast Go.Proofs.YteneeeepocefaaaW.PrintMore
attribute [local go_sem] max2_int min2_int max_two min_two max_three min_three max_four min_four   -- for this text's walks alone
set_option linter.unusedVariables false
set_option linter.unusedSimpArgs false

/-! ### impl_areMachines: function 28 -/
def impl_areMachines.f (l0 : List Int) (a1 : Int) : Option (Bool) := (impl_AreJobs.f l0).bind fun t129 => (if t129 = true then ((impl_within.f a1 1 4).bind fun t130 => (some t130)) else (some false))
set_option maxHeartbeats 8000000 in
set_option maxRecDepth 100000 in
theorem impl_areMachines.calls (A0 : Option Addr) (c0 : Nat) (l0 : List Int) (a1 : Int) (r : Bool) (w : World) (hr0 : Kd.C (Kd.int .i64) w A0 l0.length l0) (hc0 : l0.length ≤ c0) (h : impl_areMachines.f l0 a1 = some r) :
    Calls Try.prog 28 #[.slice A0 l0.length c0, .int .i64 a1] w fun e w' => e = .returned (.bool r) ∧ Below w.heap.size w w' := by
  have HR0 := Aside0.mk hr0
  have HC0 := Aside0.mk hc0
  clear hr0 hc0
  have HB := Aside0.mk (Below.refl w.heap.size w)
  have H : ((impl_AreJobs.f l0).bind fun t129 => (if t129 = true then ((impl_within.f a1 1 4).bind fun t130 => (some t130)) else (some false))) = some r := h
  clear h
  replace H := Option.bind_eq_some_iff.mp H
  obtain ⟨t129, A30, H⟩ := H
  replace H : (if t129 = true then ((impl_within.f a1 1 4).bind fun t130 => (some t130)) else (some false)) = some r := H
  have A3 := Aside0.mk A30
  clear A30
  by_cases c4 : t129 = true
  · subst c4
    have H1 : ((impl_within.f a1 1 4).bind fun t130 => (some t130)) = some r := by rw [if_pos rfl] at H; exact H
    clear H
    have H := H1
    clear H1
    replace H := Option.bind_eq_some_iff.mp H
    obtain ⟨t130, A50, H⟩ := H
    replace H : (some t130) = some r := H
    have A5 := Aside0.mk A50
    clear A50
    obtain rfl := Option.some.inj H
    go_enter Try.func28, Try.ntmps28
    go_wp2_with (first | ((with_reducible refine gate_callee (f := 39) rfl ?_); refine goesL_ (some 6) rfl rfl Try.func39 (by kernel_rfl) rfl #[.slice A0 l0.length c0] rfl (by (try simp only [List.map_toArray, List.map_cons, List.map_nil]); first | done | rfl | (simp only [List.length_drop, List.length_take]; rfl)) ?_; (with_reducible refine (impl_AreJobs.calls _ _ l0 true _ ?side1 ?side2 A3.out).mono ?_); (case side1 => repeat (first | exact HR0.out | (with_reducible refine Kd.C_alloc ?_ _) | (with_reducible refine Kd.C_drewN ?_ _) | (with_reducible refine Kd.C_drew ?_))); (case side2 => exact HC0.out); rintro e w6 ⟨rfl, hb⟩; refine ⟨_, rfl, ?_⟩; have n0_ := Aside0.mk (below_step (by repeat (first | (with_reducible first | exact HB.out | apply below_alloc | apply pw_below_drewN | apply below_drew1) | exact HB.out)) hb); clear HB; have HB := n0_; clear n0_; (try clear hb); (try clear hb2); (try clear hk); (try clear hi)) | (go_at_call 40; (with_reducible refine (impl_within.calls a1 1 4 t130 _ A5.out).mono ?_); rintro e w' ⟨rfl, ⟨nd, rfl⟩⟩))
    go_ret
    exact ⟨by first | rfl | (simp [errW_none, errW_some] <;> rfl) | (simp [*, errW_none, errW_some] <;> rfl), by repeat (first | (with_reducible first | exact HB.out | apply below_alloc | apply pw_below_drewN | apply below_drew1) | exact HB.out)⟩
  · replace c4 := Bool.eq_false_iff.mpr c4
    subst c4
    have H1 : (some false) = some r := by rw [if_neg (show ¬ (false = true) by decide)] at H; exact H
    clear H
    have H := H1
    clear H1
    obtain rfl := Option.some.inj H
    go_enter Try.func28, Try.ntmps28
    go_wp2_with (first | ((with_reducible refine gate_callee (f := 39) rfl ?_); refine goesL_ (some 6) rfl rfl Try.func39 (by kernel_rfl) rfl #[.slice A0 l0.length c0] rfl (by (try simp only [List.map_toArray, List.map_cons, List.map_nil]); first | done | rfl | (simp only [List.length_drop, List.length_take]; rfl)) ?_; (with_reducible refine (impl_AreJobs.calls _ _ l0 false _ ?side1 ?side2 A3.out).mono ?_); (case side1 => repeat (first | exact HR0.out | (with_reducible refine Kd.C_alloc ?_ _) | (with_reducible refine Kd.C_drewN ?_ _) | (with_reducible refine Kd.C_drew ?_))); (case side2 => exact HC0.out); rintro e w7 ⟨rfl, hb⟩; refine ⟨_, rfl, ?_⟩; have n0_ := Aside0.mk (below_step (by repeat (first | (with_reducible first | exact HB.out | apply below_alloc | apply pw_below_drewN | apply below_drew1) | exact HB.out)) hb); clear HB; have HB := n0_; clear n0_; (try clear hb); (try clear hb2); (try clear hk); (try clear hi)))
    go_ret
    exact ⟨by first | rfl | (simp [errW_none, errW_some] <;> rfl) | (simp [*, errW_none, errW_some] <;> rfl), by repeat (first | (with_reducible first | exact HB.out | apply below_alloc | apply pw_below_drewN | apply below_drew1) | exact HB.out)⟩

/-! ### slices_Max_int_int: function 59 -/
def slices_Max_int_int.l0 : Nat → List Int → Int → Int → Option (Int)
  | 0, _, _, _ => none
  | k + 1, x0, x3, x4 => if x4 < (x0.length : Int) then (if 0 ≤ x4 then (slices_Max_int_int.l0 k x0 (mx x3 (rd x0 x4)) (wrap64 (x4 + 1))) else (none)) else (some x3)
def slices_Max_int_int.f (k : Nat) (l0 : List Int) : Option (Int) := if (l0.length : Int) < 1 then (none) else (if 0 < (l0.length : Int) then (slices_Max_int_int.l0 k l0 (rd l0 0) 1) else (none))
theorem slices_Max_int_int.mono_l : ∀ k, (∀ y0 y1 y2, LeO (slices_Max_int_int.l0 k y0 y1 y2) (slices_Max_int_int.l0 (k + 1) y0 y1 y2))
  | 0 => fun _ _ _ r h => by simp [slices_Max_int_int.l0] at h
  | k + 1 => by
    have ih0 := slices_Max_int_int.mono_l k
    · intro y0 y1 y2
      unfold slices_Max_int_int.l0
      repeat' first
      | (with_reducible exact ih0 _ _ _)
      | (with_reducible exact LeO.refl _)
      | (with_reducible exact LeO.none _)
      | (with_reducible refine LeO.ite ?_ ?_)
      | (with_reducible refine LeO.bind ?_ (fun _ => ?_))
      | exact ih0 _ _ _
      | exact LeO.none _
      | refine LeO.ite ?_ ?_
      | refine LeO.bind ?_ (fun _ => ?_)
theorem slices_Max_int_int.mono : ∀ a0 k, LeO (slices_Max_int_int.f k a0) (slices_Max_int_int.f (k + 1) a0) := by
  intro a0 k
  have ih0 := slices_Max_int_int.mono_l k
  unfold slices_Max_int_int.f
  repeat' first
      | (with_reducible exact ih0 _ _ _)
      | (with_reducible exact LeO.refl _)
      | (with_reducible exact LeO.none _)
      | (with_reducible refine LeO.ite ?_ ?_)
      | (with_reducible refine LeO.bind ?_ (fun _ => ?_))
      | exact ih0 _ _ _
      | exact LeO.none _
      | refine LeO.ite ?_ ?_
      | refine LeO.bind ?_ (fun _ => ?_)
set_option maxHeartbeats 8000000 in
set_option maxRecDepth 100000 in
theorem slices_Max_int_int.calls (k : Nat) (A0 : Option Addr) (c0 : Nat) (l0 : List Int) (r : Int) (w : World) (hr0 : Kd.C (Kd.int .i64) w A0 l0.length l0) (hc0 : l0.length ≤ c0) (h : slices_Max_int_int.f k l0 = some r) :
    Calls Try.prog 59 #[.slice A0 l0.length c0] w fun e w' => e = .returned (.int .i64 r) ∧ Below w.heap.size w w' := by
  have HR0 := Aside0.mk hr0
  have HC0 := Aside0.mk hc0
  clear hr0 hc0
  have HB := Aside0.mk (Below.refl w.heap.size w)
  have H : (if (l0.length : Int) < 1 then (none) else (if 0 < (l0.length : Int) then (slices_Max_int_int.l0 k l0 (rd l0 0) 1) else (none))) = some r := h
  clear h
  by_cases c2 : (l0.length : Int) < 1
  · rw [if_pos c2] at H
    exact absurd H (by simp)
  · rw [if_neg c2] at H
    have c2b0 : decide ((l0.length : Int) < 1) = false := decide_eq_false c2
    have c2b1 : decide (l0.length < 1) = false := decide_eq_false (by omega)
    clear c2
    by_cases c3 : 0 < (l0.length : Int)
    · rw [if_pos c3] at H
      have c3b0 : decide (0 < (l0.length : Int)) = true := decide_eq_true c3
      have c3b1 : decide (0 < l0.length) = true := decide_eq_true (by omega)
      clear c3
      have H' := Aside0.mk H
      clear H
      have p131 : 0 ≤ (0 : Int) := (by omega)
      have q131 : 0 < (l0.length : Int) := of_decide_eq_true (by first | (with_reducible assumption) | assumption)
      obtain ⟨ad131, e131, hx131_0⟩ := Kd.at_int HR0.out 0 p131 q131
      cases e131
      have qi131 : (0 < l0.length) = True := eq_true (by omega)
      (try rw [show ((0 : Int)).toNat = 0 from rfl] at hx131_0)
      (try rw [Addr.add_zero'] at hx131_0)
      replace p131 := eq_true p131
      replace q131 := eq_true q131
      go_enter Try.func59, Try.ntmps59
      go_wp2
      go_loopg [3, 4] k (fun kq v3 v4 w' => ∃ (x3_1 : Int) (x4_1 : Int), v3 = .int .i64 x3_1 ∧ v4 = .int .i64 x4_1 ∧ Aside0 (slices_Max_int_int.l0 kq l0 x3_1 x4_1 = some r) ∧ Aside0 (kq ≤ k) ∧ Aside0 (Below w.heap.size w w'))
      case atStart => exact ⟨(rd l0 0), (1), (by first | rfl | (simp; done) | (simp [*]; done)), (by first | rfl | (simp; done) | (simp [*]; done)), H', ⟨Nat.le_refl _⟩, ⟨by repeat (first | (with_reducible first | exact HB.out | apply below_alloc | apply pw_below_drewN | apply below_drew1) | exact HB.out)⟩⟩
      case round =>
        clear H'
        try clear p1
        try clear q1
        try clear hx1
        try clear qi1
        try clear c2
        try clear c2b0
        try clear c2b1
        try clear p2
        try clear c3
        try clear c3b0
        try clear c3b1
        try clear hx131_0
        try clear p131
        try clear q131
        obtain ⟨x3_1, x4_1, rfl, rfl, HA, HK1, HB⟩ := hrel
        cases gk with
        | zero => exact absurd HA.out (by simp [slices_Max_int_int.l0])
        | succ k1 =>
          have H := HA.out
          clear HA
          simp only [slices_Max_int_int.l0] at H
          by_cases c4 : x4_1 < (l0.length : Int)
          · rw [if_pos c4] at H
            have c4b0 : decide (x4_1 < (l0.length : Int)) = true := decide_eq_true c4
            clear c4
            by_cases c5 : 0 ≤ x4_1
            · rw [if_pos c5] at H
              have c5b0 : decide (0 ≤ x4_1) = true := decide_eq_true c5
              clear c5
              obtain ⟨ji6, hji6⟩ : ∃ j_ : Int, (mx x3_1 (rd l0 x4_1)) = j_ := ⟨_, rfl⟩
              replace H : (slices_Max_int_int.l0 k1 l0 ji6 (wrap64 (x4_1 + 1))) = some r := by first | (rw [hji6] at H; exact H) | (simp only [hji6] at H ⊢; exact H)
              have hji6_ : (if x3_1 < (rd l0 x4_1) then (rd l0 x4_1) else x3_1) = ji6 := hji6
              have H' := Aside0.mk H
              clear H
              have p132 : 0 ≤ (x4_1 : Int) := of_decide_eq_true (by first | (with_reducible assumption) | assumption)
              have q132 : x4_1 < (l0.length : Int) := of_decide_eq_true (by first | (with_reducible assumption) | assumption)
              obtain ⟨ad132, e132, hx132_0⟩ := Kd.at_int HR0.out x4_1 p132 q132
              obtain rfl : ad131 = ad132 := (by injection e132)
              replace hx132_0 := (HB.out.cell (World.block_lt_of_cell? w _ hx132_0)).trans hx132_0
              replace p132 := eq_true p132
              replace q132 := eq_true q132
              go_wp2
              go_roundg k1
              case measure => have := HK1.out; omega
              case rel => exact ⟨(ji6), (wrap64 (x4_1 + 1)), (by first | rfl | (simp; done) | (simp only [← hji6] <;> (first | rfl | simp)) | (simp [*]; done)), (by first | rfl | (simp; done) | (simp [*]; done)), H', ⟨by have := HK1.out; omega⟩, ⟨by repeat (first | (with_reducible first | exact HB.out | apply below_alloc | apply pw_below_drewN | apply below_drew1) | exact HB.out)⟩⟩
            · rw [if_neg c5] at H
              exact absurd H (by simp)
          · rw [if_neg c4] at H
            have c4b0 : decide (x4_1 < (l0.length : Int)) = false := decide_eq_false c4
            clear c4
            obtain rfl := Option.some.inj H
            go_wp2
            go_ret
            exact ⟨by first | rfl | (simp [errW_none, errW_some] <;> rfl) | (simp [*, errW_none, errW_some] <;> rfl), by repeat (first | (with_reducible first | exact HB.out | apply below_alloc | apply pw_below_drewN | apply below_drew1) | exact HB.out)⟩
    · rw [if_neg c3] at H
      exact absurd H (by simp)

/-! ### impl_loadsOf: function 60 -/
def impl_loadsOf.l0 : Nat → List Int → List Int → List Int → Int → Int → Option (List Int)
  | 0, _, _, _, _, _ => none
  | k + 1, x0, x7, x12, x13, x14 => if x14 < x13 then (if 0 ≤ x14 then (if x14 < (x12.length : Int) then (if 0 ≤ (rd x12 x14) then (if (rd x12 x14) < (x7.length : Int) then (if x14 < (x0.length : Int) then (impl_loadsOf.l0 k x0 (x7.set ((rd x12 x14) : Int).toNat (wrap64 ((rd x7 (rd x12 x14)) + (rd x0 x14)))) x12 x13 (wrap64 (x14 + 1))) else (none)) else (none)) else (none)) else (none)) else (none)) else (some x7)
def impl_loadsOf.f (k : Nat) (l0 : List Int) (a1 : Int) (l2 : List Int) : Option (List Int) := if 0 ≤ a1 then (if (a1 : Int).toNat ≤ 35184372088832 then (impl_loadsOf.l0 k l0 (List.replicate (a1 : Int).toNat 0) l2 (l2.length : Int) 0) else (none)) else (none)
theorem impl_loadsOf.mono_l : ∀ k, (∀ y0 y1 y2 y3 y4, LeO (impl_loadsOf.l0 k y0 y1 y2 y3 y4) (impl_loadsOf.l0 (k + 1) y0 y1 y2 y3 y4))
  | 0 => fun _ _ _ _ _ r h => by simp [impl_loadsOf.l0] at h
  | k + 1 => by
    have ih0 := impl_loadsOf.mono_l k
    · intro y0 y1 y2 y3 y4
      unfold impl_loadsOf.l0
      repeat' first
      | (with_reducible exact ih0 _ _ _ _ _)
      | (with_reducible exact LeO.refl _)
      | (with_reducible exact LeO.none _)
      | (with_reducible refine LeO.ite ?_ ?_)
      | (with_reducible refine LeO.bind ?_ (fun _ => ?_))
      | exact ih0 _ _ _ _ _
      | exact LeO.none _
      | refine LeO.ite ?_ ?_
      | refine LeO.bind ?_ (fun _ => ?_)
theorem impl_loadsOf.mono : ∀ a0 a1 a2 k, LeO (impl_loadsOf.f k a0 a1 a2) (impl_loadsOf.f (k + 1) a0 a1 a2) := by
  intro a0 a1 a2 k
  have ih0 := impl_loadsOf.mono_l k
  unfold impl_loadsOf.f
  repeat' first
      | (with_reducible exact ih0 _ _ _ _ _)
      | (with_reducible exact LeO.refl _)
      | (with_reducible exact LeO.none _)
      | (with_reducible refine LeO.ite ?_ ?_)
      | (with_reducible refine LeO.bind ?_ (fun _ => ?_))
      | exact ih0 _ _ _ _ _
      | exact LeO.none _
      | refine LeO.ite ?_ ?_
      | refine LeO.bind ?_ (fun _ => ?_)
def impl_loadsOf.T5 : Bool × List (List Nat × List Nat) := (true, [([], []), ([], []), ([0, 1], [0, 1]), ([2], [2]), ([], []), ([], []), ([4, 5], [4, 5]), ([6], [6]), ([3, 7], [3, 7]), ([0, 1, 0, 1, 2, 3, 4, 5, 6, 7, 8], [0, 1]), ([9, 8, 0, 1, 2, 3, 4, 5, 6, 7, 8], [8, 9])])
def impl_loadsOf.B5 : List Nat := [0, 0, 3, 7, 0, 0, 48, 112, 255, 511, 1023]
theorem impl_loadsOf.tab5 : rtab .any (opsOf Try.f60 5) = impl_loadsOf.T5 := by kernel_rfl
theorem impl_loadsOf.bits5 : waitsOk impl_loadsOf.T5.2 impl_loadsOf.B5 = true := by kernel_rfl
set_option maxHeartbeats 8000000 in
set_option maxRecDepth 100000 in
theorem impl_loadsOf.calls (k : Nat) (A0 : Option Addr) (c0 : Nat) (l0 : List Int) (a1 : Int) (A2 : Option Addr) (c2 : Nat) (l2 : List Int) (r : List Int) (w : World) (hr0 : Kd.C (Kd.int .i64) w A0 l0.length l0) (hc0 : l0.length ≤ c0) (hr2 : Kd.C (Kd.int .i64) w A2 l2.length l2) (hc2 : l2.length ≤ c2) (h : impl_loadsOf.f k l0 a1 l2 = some r) :
    Calls Try.prog 60 #[.slice A0 l0.length c0, .int .i64 a1, .slice A2 l2.length c2] w fun e w' => ∃ v0_ : Value, e = .returned (v0_) ∧ Kd.R (Kd.int .i64) 3 w' w.heap.size (fun _ => True) v0_ r ∧ Below w.heap.size w w' := by
  have HR0 := Aside0.mk hr0
  have HC0 := Aside0.mk hc0
  clear hr0 hc0
  have HR2 := Aside0.mk hr2
  have HC2 := Aside0.mk hc2
  clear hr2 hc2
  have HB := Aside0.mk (Below.refl w.heap.size w)
  have H : (if 0 ≤ a1 then (if (a1 : Int).toNat ≤ 35184372088832 then (impl_loadsOf.l0 k l0 (List.replicate (a1 : Int).toNat 0) l2 (l2.length : Int) 0) else (none)) else (none)) = some r := h
  clear h
  by_cases c4 : 0 ≤ a1
  · rw [if_pos c4] at H
    have c4b0 := eq_true c4
    have c4b1 : decide (0 ≤ a1) = true := decide_eq_true c4
    clear c4
    by_cases c5 : (a1 : Int).toNat ≤ 35184372088832
    · rw [if_pos c5] at H
      have c5b0 := eq_true c5
      have c5b1 : decide ((a1 : Int).toNat ≤ 35184372088832) = true := decide_eq_true c5
      clear c5
      obtain ⟨y133, hy133⟩ : ∃ y_ : List Int, y_ = (List.replicate (a1 : Int).toNat 0) := ⟨_, rfl⟩
      replace H : (impl_loadsOf.l0 k l0 y133 l2 (l2.length : Int) 0) = some r := by first | (rw [hy133]; with_reducible exact H) | (have H2_ := (Option.bind_some _ _).symm.trans H; rw [hy133]; with_reducible exact H2_) | (have H2_ := (Option.bind_some _ _).symm.trans H; with_reducible exact H2_) | with_reducible exact H | (rw [hy133]; exact H) | exact H
      have Ny133 := Aside0.mk hy133
      clear hy133
      have H' := Aside0.mk H
      clear H
      go_enter Try.func60, Try.ntmps60
      go_wp2_with (first | ((with_reducible refine gate_dst (N := 11) rfl ?_); refine Kd.R_make (Kd.int .i64) _ 3 rfl (N := 11) rfl 22 _ _ rfl a1 rfl rfl Try.underlying22 (.int .i64 0) 8 info3 rfl (by decide) (by omega) 0 (ok := fun _ => True) (okp := fun _ => True) rfl (fun _ hk => hk) trivial (of_decide_eq_true (by first | (with_reducible assumption) | assumption)) (Nat.le_trans (Nat.mul_le_mul_right _ (of_decide_eq_true (by first | (with_reducible assumption) | assumption) : a1.toNat ≤ 35184372088832)) (by omega)) (Below.refl _ _) (Nat.le_refl _) ?_; intro v134 w6 ho7 hb hg_ hnew_; clear hg_ hnew_; (first | rw [← Ny133.out] at ho7 | (simp only [Int.reduceToNat] at ho7; rw [← Ny133.out] at ho7)); have n0_ := Aside0.mk (Kd.R_lower ho7 (below_size (by repeat (first | (with_reducible first | exact HB.out | apply below_alloc | apply pw_below_drewN | apply below_drew1) | exact HB.out)))); have n1_ := Aside0.mk (below_step (by repeat (first | (with_reducible first | exact HB.out | apply below_alloc | apply pw_below_drewN | apply below_drew1) | exact HB.out)) hb); clear HB; have HO135 := n0_; have HB := n1_; clear n0_ n1_; clear hb ho7))
      go_loopg [14] k (fun kq v14 w' => ∃ (x7_1 : List Int) (x14_1 : Int), v14 = .int .i64 x14_1 ∧ Aside0 (impl_loadsOf.l0 kq l0 x7_1 l2 (l2.length : Int) x14_1 = some r) ∧ Aside0 (kq ≤ k) ∧ Aside0 (Kd.R (Kd.int .i64) 3 w' w.heap.size (fun _ => True) v134 x7_1) ∧ Aside0 (Below w.heap.size w w'))
      case atStart => exact ⟨(y133), (0), (by first | rfl | (simp; done) | (simp [*]; done)), H', ⟨Nat.le_refl _⟩, ⟨by (with_reducible repeat (first | apply Kd.R_alloc | apply Kd.R_drewN | apply Kd.R_drew)); exact HO135.out⟩, ⟨by repeat (first | (with_reducible first | exact HB.out | apply below_alloc | apply pw_below_drewN | apply below_drew1) | exact HB.out)⟩⟩
      case round =>
        clear H'
        try clear c2
        try clear p2
        try clear c4
        try clear c4b0
        try clear c4b1
        try clear c5
        try clear c5b0
        try clear c5b1
        try clear c6
        obtain ⟨x7_1, x14_1, rfl, HA, HK1, HO_7, HB⟩ := hrel
        cases gk with
        | zero => exact absurd HA.out (by simp [impl_loadsOf.l0])
        | succ k1 =>
          have H := HA.out
          clear HA
          simp only [impl_loadsOf.l0] at H
          by_cases c8 : x14_1 < (l2.length : Int)
          · rw [if_pos c8] at H
            have c8b0 : decide (x14_1 < (l2.length : Int)) = true := decide_eq_true c8
            clear c8
            by_cases c9 : 0 ≤ x14_1
            · rw [if_pos c9] at H
              have c9b0 : decide (0 ≤ x14_1) = true := decide_eq_true c9
              clear c9
              by_cases c10 : x14_1 < (l2.length : Int)
              · rw [if_pos c10] at H
                have c10b0 : decide (x14_1 < (l2.length : Int)) = true := decide_eq_true c10
                clear c10
                by_cases c11 : 0 ≤ (rd l2 x14_1)
                · rw [if_pos c11] at H
                  have c11b0 : decide (0 ≤ (rd l2 x14_1)) = true := decide_eq_true c11
                  clear c11
                  by_cases c12 : (rd l2 x14_1) < (x7_1.length : Int)
                  · rw [if_pos c12] at H
                    have c12b0 : decide ((rd l2 x14_1) < (x7_1.length : Int)) = true := decide_eq_true c12
                    clear c12
                    by_cases c13 : x14_1 < (l0.length : Int)
                    · rw [if_pos c13] at H
                      have c13b0 : decide (x14_1 < (l0.length : Int)) = true := decide_eq_true c13
                      clear c13
                      obtain ⟨y139, hy139⟩ : ∃ y_ : List Int, y_ = (x7_1.set ((rd l2 x14_1) : Int).toNat (wrap64 ((rd x7_1 (rd l2 x14_1)) + (rd l0 x14_1)))) := ⟨_, rfl⟩
                      replace H : (impl_loadsOf.l0 k1 l0 y139 l2 (l2.length : Int) (wrap64 (x14_1 + 1))) = some r := by first | (rw [hy139]; with_reducible exact H) | (have H2_ := (Option.bind_some _ _).symm.trans H; rw [hy139]; with_reducible exact H2_) | (have H2_ := (Option.bind_some _ _).symm.trans H; with_reducible exact H2_) | with_reducible exact H | (rw [hy139]; exact H) | exact H
                      have Ny139 := Aside0.mk hy139
                      clear hy139
                      have H' := Aside0.mk H
                      clear H
                      have p136 : 0 ≤ (x14_1 : Int) := of_decide_eq_true (by first | (with_reducible assumption) | assumption)
                      have q136 : x14_1 < (l2.length : Int) := of_decide_eq_true (by first | (with_reducible assumption) | assumption)
                      obtain ⟨ad136, e136, hx136_0⟩ := Kd.at_int HR2.out x14_1 p136 q136
                      cases e136
                      replace hx136_0 := (HB.out.cell (World.block_lt_of_cell? w _ hx136_0)).trans hx136_0
                      replace p136 := eq_true p136
                      replace q136 := eq_true q136
                      try go_wp2
                      have n0_ := Aside0.mk (Kd.R_drew HO_7.out)
                      have n1_ := Aside0.mk (below_drew1 HB.out)
                      clear HO_7
                      clear HB
                      have HO_7 := n0_
                      have HB := n1_
                      clear n0_ n1_
                      obtain ⟨Ao16, co16, eo16⟩ := Kd.R_slice HO_7.out
                      (first | subst eo16 | (injection eo16 with f1_ f2_ f3_; have f4_ := f1_.symm; have f5_ := f3_.symm; clear f1_ f2_ f3_; subst f4_; subst f5_))
                      have p137 : 0 ≤ ((rd l2 x14_1) : Int) := of_decide_eq_true (by first | (with_reducible assumption) | assumption)
                      have q137 : (rd l2 x14_1) < (x7_1.length : Int) := of_decide_eq_true (by first | (with_reducible assumption) | assumption)
                      obtain ⟨ad137, e137, hx137_0⟩ := Kd.at_int (Kd.R_reads' HO_7.out).2.2 (rd l2 x14_1) p137 q137
                      cases e137
                      replace p137 := eq_true p137
                      replace q137 := eq_true q137
                      have p138 : 0 ≤ (x14_1 : Int) := of_decide_eq_true (by first | (with_reducible assumption) | assumption)
                      have q138 : x14_1 < (l0.length : Int) := of_decide_eq_true (by first | (with_reducible assumption) | assumption)
                      obtain ⟨ad138, e138, hx138_0⟩ := Kd.at_int HR0.out x14_1 p138 q138
                      have hw138_0 := hx138_0
                      cases e138
                      replace hx138_0 := (HB.out.cell (World.block_lt_of_cell? w _ hx138_0)).trans hx138_0
                      replace p138 := eq_true p138
                      replace q138 := eq_true q138
                      have p14 : 0 ≤ ((rd l2 x14_1) : Int) := of_decide_eq_true (by first | (with_reducible assumption) | assumption)
                      have q14 : ((rd l2 x14_1) : Int) < ((x7_1.length : Int) : Int) := of_decide_eq_true (by first | (with_reducible assumption) | assumption)
                      obtain ⟨go14, co14, eo14, gb14, gl14, cl14, HG14⟩ := Kd.R_form HO_7.out (by omega)
                      (first | cases eo14 | (injection eo14 with ea_ en_ ec_; (first | subst ea_ | (injection ea_ with ea_; subst ea_)); subst ec_; clear en_))
                      have GB14 := Aside0.mk gb14
                      have GG14 := Aside0.mk HG14
                      clear gb14 gl14 HG14
                      (first | simp only [add_plain] at hx137_0 | skip)
                      obtain ⟨hx14_0, hf14_0⟩ := Kd.R_celln 0 HO_7.out ((rd l2 x14_1) : Int) p14 q14
                      replace p14 := eq_true p14
                      replace q14 := eq_true q14
                      have HP17 := Kd.R_putn HO_7.out ((rd l2 x14_1) : Int) (wrap64 ((rd x7_1 (rd l2 x14_1)) + (rd l0 x14_1)))
                      rw [← Ny139.out] at HP17
                      have HQ17 := Aside0.mk HP17
                      clear HP17
                      refine start_ (n := 11) (S := fun w' => w'.cell? ⟨go14, ((rd l2 x14_1)).toNat, none⟩ = some (.int .i64 (rd x7_1 (rd l2 x14_1))) ∧ w'.cell? (ad138.add (x14_1).toNat) = some (.int .i64 (rd l0 x14_1))) (ds := [10]) #[false, false, false, false, false, false, false, false, false, false, false] (by kernel_rfl) rfl rfl ⟨hx137_0, ((HB.out.cell (World.block_lt_of_cell? w _ hw138_0)).trans hw138_0)⟩ (fun hHeld => ?_); refine with_tabW impl_loadsOf.tab5 impl_loadsOf.bits5 (fun HT_ HW_ => ?_)
                      generalize wr.drew = w15 at HO_7 HB GG14 HQ17 hf14_0 hx137_0 hx138_0 hx14_0 hHeld ⊢
                      refine pure_ (i := 0) (N := some 19) (v := ?_) (a' := ?_) #[true, false, false, false, false, false, false, false, false, false, false] rfl rfl (any_of HT_.out (by kernel_rfl)) (fun _ _ _ h => h) (Or.inl ⟨by rfl, ?_⟩) ?_ ?_
                      rotate_left
                      · intro w'
                        go_simp
                        with_reducible rfl
                      rotate_left
                      · simp only [Act.put, List.setIfInBounds_toArray, List.set_cons_zero, List.set_cons_succ, i64_w, i32_w]
                        rfl
                      refine pure_ (i := 1) (N := some 20) (v := ?_) (a' := ?_) #[true, true, false, false, false, false, false, false, false, false, false] rfl rfl (any_of HT_.out (by kernel_rfl)) (fun _ _ _ h => h) (Or.inl ⟨by rfl, ?_⟩) ?_ ?_
                      rotate_left
                      · intro w'
                        go_simp
                        with_reducible rfl
                      rotate_left
                      · simp only [Act.put, List.setIfInBounds_toArray, List.set_cons_zero, List.set_cons_succ, i64_w, i32_w]
                        rfl
                      refine pure_ (i := 2) (N := some 21) (v := ?_) (a' := ?_) #[true, true, true, false, false, false, false, false, false, false, false] rfl rfl (any_of HT_.out (by kernel_rfl)) (fun _ _ _ h => h) (Or.inl ⟨by rfl, ?_⟩) ?_ ?_
                      rotate_left
                      · intro w'
                        go_simp
                        with_reducible rfl
                      rotate_left
                      · simp only [Act.put, List.setIfInBounds_toArray, List.set_cons_zero, List.set_cons_succ, i64_w, i32_w]
                        rfl
                      refine pure_ (i := 4) (N := some 23) (v := ?_) (a' := ?_) #[true, true, true, false, true, false, false, false, false, false, false] rfl rfl (any_of HT_.out (by kernel_rfl)) (fun _ _ _ h => h) (Or.inl ⟨by rfl, ?_⟩) ?_ ?_
                      rotate_left
                      · intro w'
                        go_simp
                        with_reducible rfl
                      rotate_left
                      · simp only [Act.put, List.setIfInBounds_toArray, List.set_cons_zero, List.set_cons_succ, i64_w, i32_w]
                        rfl
                      refine pure_ (i := 5) (N := some 24) (v := ?_) (a' := ?_) #[true, true, true, false, true, true, false, false, false, false, false] rfl rfl (any_of HT_.out (by kernel_rfl)) (fun _ _ _ h => h) (Or.inl ⟨by rfl, ?_⟩) ?_ ?_
                      rotate_left
                      · intro w'
                        go_simp
                        with_reducible rfl
                      rotate_left
                      · simp only [Act.put, List.setIfInBounds_toArray, List.set_cons_zero, List.set_cons_succ, i64_w, i32_w]
                        rfl
                      refine pure_ (i := 6) (N := some 25) (v := ?_) (a' := ?_) #[true, true, true, false, true, true, true, false, false, false, false] rfl rfl (any_of HT_.out (by kernel_rfl)) (fun _ _ _ h => h) (Or.inl ⟨by rfl, ?_⟩) ?_ ?_
                      rotate_left
                      · intro w'
                        go_simp
                        with_reducible rfl
                      rotate_left
                      · simp only [Act.put, List.setIfInBounds_toArray, List.set_cons_zero, List.set_cons_succ, i64_w, i32_w]
                        rfl
                      refine take_ (i := 3) (N := some 22) (v := ?_) (a' := ?_) #[true, true, true, true, true, true, true, false, false, false, false] rfl rfl (take_ofW HT_.out HW_.out (by kernel_rfl)) (fun _ _ _ h => h) (Or.inl ⟨by rfl, ?_⟩) hHeld ?_ ?_
                      rotate_left
                      · rintro w' ⟨s0, s1⟩
                        go_simp
                        with_reducible rfl
                      rotate_left
                      · simp only [Act.put, List.setIfInBounds_toArray, List.set_cons_zero, List.set_cons_succ, i64_w, i32_w]
                        rfl
                      refine take_ (i := 7) (N := some 26) (v := ?_) (a' := ?_) #[true, true, true, true, true, true, true, true, false, false, false] rfl rfl (take_ofW HT_.out HW_.out (by kernel_rfl)) (fun _ _ _ h => h) (Or.inl ⟨by rfl, ?_⟩) hHeld ?_ ?_
                      rotate_left
                      · rintro w' ⟨s0, s1⟩
                        go_simp
                        with_reducible rfl
                      rotate_left
                      · simp only [Act.put, List.setIfInBounds_toArray, List.set_cons_zero, List.set_cons_succ, i64_w, i32_w]
                        rfl
                      refine pure_ (i := 8) (N := some 27) (v := ?_) (a' := ?_) #[true, true, true, true, true, true, true, true, true, false, false] rfl rfl (any_of HT_.out (by kernel_rfl)) (fun _ _ _ h => h) (Or.inl ⟨by rfl, ?_⟩) ?_ ?_
                      rotate_left
                      · intro w'
                        go_simp
                        with_reducible rfl
                      rotate_left
                      · simp only [Act.put, List.setIfInBounds_toArray, List.set_cons_zero, List.set_cons_succ, i64_w, i32_w]
                        rfl
                      refine pure_ (i := 9) (N := some 28) (v := ?_) (a' := ?_) #[true, true, true, true, true, true, true, true, true, true, false] rfl rfl (any_of HT_.out (by kernel_rfl)) (fun _ _ _ h => h) (Or.inl ⟨by rfl, ?_⟩) ?_ ?_
                      rotate_left
                      · intro w'
                        go_simp
                        with_reducible rfl
                      rotate_left
                      · simp only [Act.put, List.setIfInBounds_toArray, List.set_cons_zero, List.set_cons_succ, i64_w, i32_w]
                        rfl
                      refine last_ (i := 10) (N := none) #[true, true, true, true, true, true, true, true, true, true, true] rfl rfl (one_of HT_.out (by kernel_rfl)) (by decide) (fun K hK => ?_)
                      refine skip_ (w1 := ?_) (by rfl) rfl ?_ ?_
                      rotate_left
                      · go_simp
                        rfl
                      refine hK.out _ _ ?_
                      clear hK K
                      refine done_ (done_of HT_.out (by kernel_rfl)) ?_
                      try go_wp2
                      go_roundg k1
                      case measure => have := HK1.out; omega
                      case rel => exact ⟨(y139), (wrap64 (x14_1 + 1)), (by first | rfl | (simp; done) | (simp [*]; done)), H', ⟨by have := HK1.out; omega⟩, ⟨by (with_reducible repeat (first | apply Kd.R_alloc | apply Kd.R_drewN | apply Kd.R_drew)); exact HQ17.out⟩, ⟨by repeat (first | (with_reducible first | exact HB.out | apply below_alloc | apply pw_below_drewN | apply below_drew1 | refine below_set ?_ GB14.out) | exact HB.out)⟩⟩
                    · rw [if_neg c13] at H
                      exact absurd H (by simp)
                  · rw [if_neg c12] at H
                    exact absurd H (by simp)
                · rw [if_neg c11] at H
                  exact absurd H (by simp)
              · rw [if_neg c10] at H
                exact absurd H (by simp)
            · rw [if_neg c9] at H
              exact absurd H (by simp)
          · rw [if_neg c8] at H
            have c8b0 : decide (x14_1 < (l2.length : Int)) = false := decide_eq_false c8
            clear c8
            obtain rfl := Option.some.inj H
            go_wp2
            go_ret
            exact ⟨_, by first | rfl | (simp [errW_none, errW_some] <;> rfl) | (simp [*, errW_none, errW_some] <;> rfl), by (with_reducible repeat (first | apply Kd.R_alloc | apply Kd.R_drewN | apply Kd.R_drew)); exact HO_7.out, by repeat (first | (with_reducible first | exact HB.out | apply below_alloc | apply pw_below_drewN | apply below_drew1) | exact HB.out)⟩
    · rw [if_neg c5] at H
      exact absurd H (by simp)
  · rw [if_neg c4] at H
    exact absurd H (by simp)

/-! ### impl_endOf: function 52 -/
def impl_endOf.f (k : Nat) (l0 : List Int) (a1 : Int) (l2 : List Int) : Option (Int) := (impl_loadsOf.f k l0 a1 l2).bind fun t140 => ((slices_Max_int_int.f k t140).bind fun t143 => (some t143))
theorem impl_endOf.mono : ∀ a0 a1 a2 k, LeO (impl_endOf.f k a0 a1 a2) (impl_endOf.f (k + 1) a0 a1 a2) := by
  intro a0 a1 a2 k
  unfold impl_endOf.f
  repeat' first
      | (with_reducible exact impl_loadsOf.mono _ _ _ _)
      | (with_reducible exact slices_Max_int_int.mono _ _)
      | (with_reducible exact LeO.refl _)
      | (with_reducible exact LeO.none _)
      | (with_reducible refine LeO.ite ?_ ?_)
      | (with_reducible refine LeO.bind ?_ (fun _ => ?_))
      | exact impl_loadsOf.mono _ _ _ _
      | exact slices_Max_int_int.mono _ _
      | exact LeO.none _
      | refine LeO.ite ?_ ?_
      | refine LeO.bind ?_ (fun _ => ?_)
set_option maxHeartbeats 8000000 in
set_option maxRecDepth 100000 in
theorem impl_endOf.calls (k : Nat) (A0 : Option Addr) (c0 : Nat) (l0 : List Int) (a1 : Int) (A2 : Option Addr) (c2 : Nat) (l2 : List Int) (r : Int) (w : World) (hr0 : Kd.C (Kd.int .i64) w A0 l0.length l0) (hc0 : l0.length ≤ c0) (hr2 : Kd.C (Kd.int .i64) w A2 l2.length l2) (hc2 : l2.length ≤ c2) (h : impl_endOf.f k l0 a1 l2 = some r) :
    Calls Try.prog 52 #[.slice A0 l0.length c0, .int .i64 a1, .slice A2 l2.length c2] w fun e w' => e = .returned (.int .i64 r) ∧ Below w.heap.size w w' := by
  have HR0 := Aside0.mk hr0
  have HC0 := Aside0.mk hc0
  clear hr0 hc0
  have HR2 := Aside0.mk hr2
  have HC2 := Aside0.mk hc2
  clear hr2 hc2
  have HB := Aside0.mk (Below.refl w.heap.size w)
  have H : ((impl_loadsOf.f k l0 a1 l2).bind fun t140 => ((slices_Max_int_int.f k t140).bind fun t143 => (some t143))) = some r := h
  clear h
  replace H := Option.bind_eq_some_iff.mp H
  obtain ⟨t140, A40, H⟩ := H
  replace H : ((slices_Max_int_int.f k t140).bind fun t143 => (some t143)) = some r := H
  have A4 := Aside0.mk A40
  clear A40
  replace H := Option.bind_eq_some_iff.mp H
  obtain ⟨t143, A50, H⟩ := H
  replace H : (some t143) = some r := H
  have A5 := Aside0.mk A50
  clear A50
  obtain rfl := Option.some.inj H
  go_enter Try.func52, Try.ntmps52
  go_wp2_with (first | ((with_reducible refine gate_callee (f := 60) rfl ?_); refine goesL_ (some 10) rfl rfl Try.func60 (by kernel_rfl) rfl #[.slice A0 l0.length c0, .int .i64 a1, .slice A2 l2.length c2] rfl (by (try simp only [List.map_toArray, List.map_cons, List.map_nil]); first | done | rfl | (simp only [List.length_drop, List.length_take]; rfl)) ?_; (with_reducible refine (impl_loadsOf.calls k _ _ l0 a1 _ _ l2 t140 _ ?side1 ?side2 ?side3 ?side4 A4.out).mono ?_); (case side1 => repeat (first | exact HR0.out | (with_reducible refine Kd.C_alloc ?_ _) | (with_reducible refine Kd.C_drewN ?_ _) | (with_reducible refine Kd.C_drew ?_))); (case side2 => exact HC0.out); (case side3 => repeat (first | exact HR2.out | (with_reducible refine Kd.C_alloc ?_ _) | (with_reducible refine Kd.C_drewN ?_ _) | (with_reducible refine Kd.C_drew ?_))); (case side4 => exact HC2.out); rintro e w6 ⟨v141, rfl, ho0, hb⟩; refine ⟨_, rfl, ?_⟩; have n0_ := Aside0.mk (Kd.R_lower ho0 (below_size (by repeat (first | (with_reducible first | exact HB.out | apply below_alloc | apply pw_below_drewN | apply below_drew1) | exact HB.out)))); have n1_ := Aside0.mk (below_step (by repeat (first | (with_reducible first | exact HB.out | apply below_alloc | apply pw_below_drewN | apply below_drew1) | exact HB.out)) hb); clear HB; have HO142 := n0_; have HB := n1_; clear n0_ n1_; (try clear hb); (try clear hb2); (try clear hk); (try clear hi); (try clear ho0); obtain ⟨Ao7, co7, eo7⟩ := Kd.R_slice HO142.out; subst eo7) | ((with_reducible refine gate_callee (f := 59) rfl ?_); refine goesL_ (some 11) rfl rfl Try.func59 (by kernel_rfl) rfl #[.slice Ao7 t140.length co7] rfl (by (try simp only [List.map_toArray, List.map_cons, List.map_nil]); first | done | rfl | (simp only [List.length_drop, List.length_take]; rfl)) ?_; (with_reducible refine (slices_Max_int_int.calls k _ _ t140 t143 _ ?side1 ?side2 A5.out).mono ?_); (case side1 => repeat (first | exact (Kd.R_reads' HO142.out).2.2 | (with_reducible refine Kd.C_alloc ?_ _) | (with_reducible refine Kd.C_drewN ?_ _) | (with_reducible refine Kd.C_drew ?_))); (case side2 => exact (Kd.R_reads' HO142.out).2.1); rintro e w8 ⟨rfl, hb⟩; refine ⟨_, rfl, ?_⟩; have n0_ := Aside0.mk (Kd.R_below (by (with_reducible repeat (first | apply Kd.R_alloc | apply Kd.R_drewN | apply Kd.R_drew)); exact HO142.out) hb); have n1_ := Aside0.mk (below_step (by repeat (first | (with_reducible first | exact HB.out | apply below_alloc | apply pw_below_drewN | apply below_drew1) | exact HB.out)) hb); clear HO142; clear HB; have HO142 := n0_; have HB := n1_; clear n0_ n1_; (try clear hb); (try clear hb2); (try clear hk); (try clear hi)))
  go_ret
  exact ⟨by first | rfl | (simp [errW_none, errW_some] <;> rfl) | (simp [*, errW_none, errW_some] <;> rfl), by repeat (first | (with_reducible first | exact HB.out | apply below_alloc | apply pw_below_drewN | apply below_drew1) | exact HB.out)⟩

/-! ### slices_Clone_int_int: function 53, by hand -/
def slices_Clone_int_int.f (l0 : List Int) : Option (List Int) := if l0.length < 17592186044416 then some l0 else none
set_option maxHeartbeats 8000000 in
set_option maxRecDepth 100000 in
theorem slices_Clone_int_int.calls (A0 : Option Addr) (c0 : Nat) (l0 : List Int) (r : List Int) (w : World) (hr0 : Kd.C (Kd.int .i64) w A0 l0.length l0) (hc0 : l0.length ≤ c0) (h : slices_Clone_int_int.f l0 = some r) :
    Calls Try.prog 53 #[.slice A0 l0.length c0] w fun e w' => ∃ v0_ : Value, e = .returned (v0_) ∧ Kd.R (Kd.int .i64) 3 w' w.heap.size (fun _ => True) v0_ r ∧ Below w.heap.size w w' := by
  unfold slices_Clone_int_int.f at h
  by_cases c2 : l0.length < 17592186044416
  · rw [if_pos c2] at h
    obtain rfl := Option.some.inj h
    clear h
    have HR0 := Aside0.mk hr0
    have HC0 := Aside0.mk hc0
    have HB := Aside0.mk (Below.refl w.heap.size w)
    have LMc2 := Aside0.mk c2
    cases A0 with
    | none =>
      have hl : l0 = [] := by
        have := hr0.2.2
        cases l0 with
        | nil => rfl
        | cons a l => obtain ⟨ad, h, _⟩ := this (by simp); cases h
      subst hl
      have hq : ∀ W : World, (binOp .eql 22 (.slice none 0 c0) (.slice none 0 0)).run Try.prog W = .ok (.bool true) W := fun W => Lib.run_eql_slice_nil (P := Try.prog) W 22 3 none 0 c0 0 0 Try.underlying22
      clear hr0 hc0 c2
      go_enter Try.func53, Try.ntmps53
      go_wp2
      go_ret
      exact ⟨_, rfl, Kd.R_nil _ _ _ _ _, HB.out⟩
    | some ad =>
      have hq : ∀ W : World, (binOp .eql 22 (.slice (some ad) l0.length c0) (.slice none 0 0)).run Try.prog W = .ok (.bool false) W := fun W => Lib.run_eql_slice_nil (P := Try.prog) W 22 3 (some ad) l0.length c0 0 0 Try.underlying22
      clear hr0 hc0 c2
      obtain ⟨y112, hy112⟩ : ∃ y_ : List Int, y_ = ([] : List Int) := ⟨_, rfl⟩
      have Ny112 := Aside0.mk hy112
      clear hy112
      obtain ⟨y115, hy115⟩ : ∃ y_ : List Int, y_ = (y112 ++ l0) := ⟨_, rfl⟩
      have Ny115 := Aside0.mk hy115
      clear hy115
      have hfin : l0 = y115 := by rw [Ny115.out, Ny112.out]; rfl
      have Hfin := Aside0.mk hfin
      clear hfin
      go_enter Try.func53, Try.ntmps53
      go_wp2_with (first | ((with_reducible refine gate_dst (N := 5) rfl ?_); refine Kd.R_lit (Kd.int .i64) _ 3 ?hg (N := 5) ?hd (xs := ([] : List Int)) (inner := []) (ok := fun _ => True) (okp := fun _ => True) ?hr ?hp (fun _ hk => hk) trivial (Below.refl _ _) (Nat.le_refl _) (by simp) ?_; (case hd => rfl); (case hg => rfl); (case hr => first | (go_simp; done) | (go_simp; rfl)); (case hp => exact (Reps.none _ _)); intro v113 w3 ho4 hb hg_ hnew_; clear hg_ hnew_; (first | rw [← Ny112.out] at ho4 | (simp only [Int.reduceToNat] at ho4; rw [← Ny112.out] at ho4)); have n0_ := Aside0.mk (Kd.R_lower ho4 (below_size (by repeat (first | (with_reducible first | exact HB.out | apply below_alloc | apply pw_below_drewN | apply below_drew1) | exact HB.out)))); have n1_ := Aside0.mk (below_step (by repeat (first | (with_reducible first | exact HB.out | apply below_alloc | apply pw_below_drewN | apply below_drew1) | exact HB.out)) hb); clear HB; have HO114 := n0_; have HB := n1_; clear n0_ n1_; clear hb ho4) | ((with_reducible refine gate_builtin (b := .append) (xs := #[.tmp 5, .tmp 6]) rfl ?_); at_builtin; refine Kd.R_append_rows (Kd.int .i64) (w0 := w) w.heap.size rfl (.tmp 5) (.tmp 6) 22 3 (.int .i64 0) 8 rfl Try.underlying22 info3 rfl (by decide) (by omega) v113 y112 l0 _ _ _ (fun _ => True) (fun _ => False) rfl rfl ?aO ?aR (fun _ _ h => h) (fun _ h => h.elim) ?aF ?aB ?aS ?aL ?_; (case aR => repeat (first | exact (Kd.C_below HR0.out HB.out) | (with_reducible refine Kd.C_alloc ?_ _) | (with_reducible refine Kd.C_drewN ?_ _) | (with_reducible refine Kd.C_drew ?_))); (case aB => exact (by repeat (first | (with_reducible first | exact HB.out | apply below_alloc | apply pw_below_drewN | apply below_drew1) | exact HB.out))); (case aF => exact (fun _ _ => trivial)); (case aO => exact (by (with_reducible repeat (first | apply Kd.R_alloc | apply Kd.R_drewN | apply Kd.R_drew)); exact HO114.out)); (case aS => exact (below_size (by repeat (first | (with_reducible first | exact HB.out | apply below_alloc | apply pw_below_drewN | apply below_drew1) | exact HB.out)))); (case aL => have := LMc2.out; have := Ny112.out; subst this; simp; omega); intro v116 w5 ho hb hg hat; rw [← Ny115.out] at ho; have n0_ := Aside0.mk (hb); have n1_ := Aside0.mk (ho); clear HB; clear HO114; have HB := n0_; have HO117 := n1_; clear n0_ n1_; clear ho hb hg hat))
      go_ret
      exact ⟨_, rfl, by rw [Hfin.out]; exact HO117.out, HB.out⟩
  · rw [if_neg c2] at h
    cases h

/-! ### impl_bestPlans: function 35, by hand -/
/-- What the closure does with a plan: the first best one is kept, its end, and how many are as good. -/
def BestPlans.cb (jobs : List Int) (m : Int) (k : Nat) (s : List Int × Int × Int) (l : List Int) : Option (List Int × Int × Int) :=
  if l = [] then none else (impl_endOf.f k jobs m l).bind fun e => (slices_Clone_int_int.f l).bind fun c => if s.1 = [] then some (c, e, 1) else if e < s.2.1 then some (c, e, 1) else if e = s.2.1 then some (s.1, s.2.1, wrap64 (s.2.2 + 1)) else some s
def impl_bestPlans.f (k : Nat) (l0 : List Int) (a1 : Int) : Option (Int × List Int × Int × Bool) := (impl_areMachines.f l0 a1).bind fun t => (if t = true then ((impl_listsOf.f (BestPlans.cb l0 a1) k (l0.length : Int) (wrap64 (a1 - 1)) ([], 0, 0)).bind fun r => (some (r.2.1, r.1, r.2.2, true))) else (some (0, [], 0, false)))
theorem BestPlans.cb_mono (jobs : List Int) (m : Int) (k : Nat) (s : List Int × Int × Int) (l : List Int) : LeO (BestPlans.cb jobs m k s l) (BestPlans.cb jobs m (k + 1) s l) := LeO.ite (LeO.refl _) (LeO.bind (impl_endOf.mono _ _ _ _) (fun _ => LeO.refl _))
theorem impl_bestPlans.mono : ∀ a0 a1 k, LeO (impl_bestPlans.f k a0 a1) (impl_bestPlans.f (k + 1) a0 a1) := fun a0 a1 k => LeO.bind (LeO.refl _) (fun _ => LeO.ite (LeO.bind (impl_listsOf.mono _ (BestPlans.cb_mono a0 a1) _ _ _ _) (fun _ => LeO.refl _)) (LeO.refl _))
/-- The slice of a plan that is kept: nil as long as there is none. -/
def BestPlans.slot (v : Value) (l : List Int) : Prop := (l = [] ∧ v = .slice none 0 0) ∨ ∃ ad n c, v = .slice (some ad) n c ∧ l ≠ []
/-- What a call of the closure leaves, from W on: the boxes b3 (best), b4 (least), b5 (count). -/
def BestPlans.Post (s s' : List Int × Int × Int) (b3 b4 b5 : Nat) (W W' : World) : Prop :=
  (∃ W1 v, Below W.heap.size W W1 ∧ Kd.R (Kd.int .i64) 3 W1 W.heap.size (fun _ => True) v s'.1 ∧ BestPlans.slot v s'.1 ∧ W' = ((W1.setCell ⟨b3, 0, none⟩ v).setCell ⟨b4, 0, none⟩ (.int .i64 s'.2.1)).setCell ⟨b5, 0, none⟩ (.int .i64 s'.2.2)) ∨
  (∃ W1, Below W.heap.size W W1 ∧ s'.1 = s.1 ∧ s'.2.1 = s.2.1 ∧ W' = W1.setCell ⟨b5, 0, none⟩ (.int .i64 s'.2.2)) ∨ (Below W.heap.size W W' ∧ s' = s)
theorem bp_set {W : World} {b : Nat} {o : Obj} (h : W.heap[b]? = some o) {p : Addr} (hb : b ≠ p.block) (u : Value) : (W.setCell p u).heap[b]? = some o := (Below.heap_setCell W p u b hb).trans h
set_option maxHeartbeats 8000000 in
set_option maxRecDepth 100000 in
theorem BestPlans.each (k : Nat) (jobs : List Int) (m : Int) (s s' : List Int × Int × Int) (b1 b2 b3 b4 b5 : Nat) (Aj : Option Addr) (cj : Nat) (A : Option Addr) (c : Nat) (l : List Int) (vb : Value) (W : World) (hl : l ≠ [])
    (h1 : W.heap[b1]? = some (.cells #[.slice Aj jobs.length cj] 22 (0, 0))) (h2 : W.heap[b2]? = some (.cells #[.int .i64 m] 3 (0, 0))) (h3 : W.heap[b3]? = some (.cells #[vb] 22 (0, 0))) (h4 : W.heap[b4]? = some (.cells #[.int .i64 s.2.1] 3 (0, 0))) (h5 : W.heap[b5]? = some (.cells #[.int .i64 s.2.2] 3 (0, 0)))
    (n34 : b3 ≠ b4) (n35 : b3 ≠ b5) (n45 : b4 ≠ b5) (hs : BestPlans.slot vb s.1) (hrj : Kd.C (Kd.int .i64) W Aj jobs.length jobs) (hcj : jobs.length ≤ cj) (hr : Kd.C (Kd.int .i64) W A l.length l) (hc : l.length ≤ c) (h : BestPlans.cb jobs m k s l = some s') :
    Calls Try.prog 51 #[.slice A l.length c, .pointer (some ⟨b1, 0, none⟩), .pointer (some ⟨b2, 0, none⟩), .pointer (some ⟨b3, 0, none⟩), .pointer (some ⟨b4, 0, none⟩), .pointer (some ⟨b5, 0, none⟩)] W fun e W' => (∃ v, e = .returned v) ∧ BestPlans.Post s s' b3 b4 b5 W W' := by
  obtain ⟨sb, sl, sc⟩ := s
  rw [BestPlans.cb, if_neg hl] at h
  obtain ⟨en, hA, H0⟩ := Option.bind_eq_some_iff.mp h
  obtain ⟨cl, hC, H⟩ := Option.bind_eq_some_iff.mp H0
  clear H0
  dsimp only at H h4 h5 hs
  have HE := Aside0.mk (impl_endOf.calls k Aj cj jobs m A c l en W hrj hcj hr hc hA)
  have HCl := Aside0.mk hC
  have HR := Aside0.mk hr
  have HL := Aside0.mk hc
  have H1 := Aside0.mk h1
  have H2 := Aside0.mk h2
  have H3 := Aside0.mk h3
  have H4 := Aside0.mk h4
  have H5 := Aside0.mk h5
  have N34 := Aside0.mk n34
  have N35 := Aside0.mk n35
  have N45 := Aside0.mk n45
  have HNE := Aside0.mk hl
  have e1 := cell_of_one h1
  have e2 := cell_of_one h2
  clear h hA hC hrj hcj hr hc h1 h2 h3 h4 h5 n34 n35 n45 hl
  have hcl : cl = l := by
    have := HCl.out
    unfold slices_Clone_int_int.f at this
    split at this
    · exact (Option.some.inj this).symm
    · cases this
  have hcl' := hcl.symm
  clear hcl
  subst hcl'
  rcases hs with ⟨rfl, rfl⟩ | ⟨ad, n, c', rfl, hsb⟩
  · -- the first plan
    have hq : ∀ W : World, (binOp .eql 22 (.slice none 0 0) (.slice none 0 0)).run Try.prog W = .ok (.bool true) W := fun W => Lib.run_eql_slice_nil (P := Try.prog) W 22 3 none 0 0 0 0 Try.underlying22
    rw [if_pos rfl] at H
    obtain rfl := (Option.some.inj H).symm
    clear H
    go_enter Try.func51, Try.ntmps51
    go_wp2_with (first | (go_at_call 52; refine HE.out.mono ?_; rintro e w6 ⟨rfl, hb⟩; have c3 := cell_of_one ((hb.block b3 (lt_of_block H3.out)).trans H3.out); have c4 := cell_of_one ((hb.block b4 (lt_of_block H4.out)).trans H4.out); have c5 := cell_of_one ((hb.block b5 (lt_of_block H5.out)).trans H5.out); have f5 := free_of_one ((hb.block b5 (lt_of_block H5.out)).trans H5.out); have HB6 := Aside0.mk hb; clear hb) | (go_at_call 53; refine (slices_Clone_int_int.calls _ _ l l _ (Kd.C_below HR.out HB6.out) HL.out HCl.out).mono ?_; rintro e w7 ⟨v, rfl, ho, hb⟩; have HB7 := Aside0.mk (HB6.out.trans (hb.mono HB6.out.size)); have x3 := (HB7.out.block b3 (lt_of_block H3.out)).trans H3.out; have x4 := (HB7.out.block b4 (lt_of_block H4.out)).trans H4.out; have x5 := (HB7.out.block b5 (lt_of_block H5.out)).trans H5.out; have HO7 := Aside0.mk (Kd.R_lower ho HB6.out.size); obtain ⟨ad7, cc7, rfl⟩ := Kd.R_slice1 ho (List.length_pos_iff.2 HNE.out); have g3 := cell_of_one x3; have f3 := free_of_one x3; have g4 := cell_of_one (bp_set x4 (p := ⟨b3, 0, none⟩) N34.out.symm (.slice (some ad7) l.length cc7)); have f4 := free_of_one (bp_set x4 (p := ⟨b3, 0, none⟩) N34.out.symm (.slice (some ad7) l.length cc7)); have g5 := cell_of_one (bp_set (bp_set x5 (p := ⟨b3, 0, none⟩) N35.out.symm (.slice (some ad7) l.length cc7)) (p := ⟨b4, 0, none⟩) N45.out.symm (.int .i64 en)); have f5' := free_of_one (bp_set (bp_set x5 (p := ⟨b3, 0, none⟩) N35.out.symm (.slice (some ad7) l.length cc7)) (p := ⟨b4, 0, none⟩) N45.out.symm (.int .i64 en)); clear hb ho x3 x4 x5))
    go_end0
    exact ⟨⟨_, rfl⟩, .inl ⟨w7, _, HB7.out, HO7.out, .inr ⟨_, _, _, rfl, HNE.out⟩, rfl⟩⟩
  have hq : ∀ W : World, (binOp .eql 22 (.slice (some ad) n c') (.slice none 0 0)).run Try.prog W = .ok (.bool false) W := fun W => Lib.run_eql_slice_nil (P := Try.prog) W 22 3 (some ad) n c' 0 0 Try.underlying22
  rw [if_neg hsb] at H
  by_cases c1 : en < sl
  · rw [if_pos c1] at H
    obtain rfl := (Option.some.inj H).symm
    have d1 : decide (en < sl) = true := decide_eq_true c1
    clear H c1
    go_enter Try.func51, Try.ntmps51
    go_wp2_with (first | (go_at_call 52; refine HE.out.mono ?_; rintro e w6 ⟨rfl, hb⟩; have c3 := cell_of_one ((hb.block b3 (lt_of_block H3.out)).trans H3.out); have c4 := cell_of_one ((hb.block b4 (lt_of_block H4.out)).trans H4.out); have c5 := cell_of_one ((hb.block b5 (lt_of_block H5.out)).trans H5.out); have f5 := free_of_one ((hb.block b5 (lt_of_block H5.out)).trans H5.out); have HB6 := Aside0.mk hb; clear hb) | (go_at_call 53; refine (slices_Clone_int_int.calls _ _ l l _ (Kd.C_below HR.out HB6.out) HL.out HCl.out).mono ?_; rintro e w7 ⟨v, rfl, ho, hb⟩; have HB7 := Aside0.mk (HB6.out.trans (hb.mono HB6.out.size)); have x3 := (HB7.out.block b3 (lt_of_block H3.out)).trans H3.out; have x4 := (HB7.out.block b4 (lt_of_block H4.out)).trans H4.out; have x5 := (HB7.out.block b5 (lt_of_block H5.out)).trans H5.out; have HO7 := Aside0.mk (Kd.R_lower ho HB6.out.size); obtain ⟨ad7, cc7, rfl⟩ := Kd.R_slice1 ho (List.length_pos_iff.2 HNE.out); have g3 := cell_of_one x3; have f3 := free_of_one x3; have g4 := cell_of_one (bp_set x4 (p := ⟨b3, 0, none⟩) N34.out.symm (.slice (some ad7) l.length cc7)); have f4 := free_of_one (bp_set x4 (p := ⟨b3, 0, none⟩) N34.out.symm (.slice (some ad7) l.length cc7)); have g5 := cell_of_one (bp_set (bp_set x5 (p := ⟨b3, 0, none⟩) N35.out.symm (.slice (some ad7) l.length cc7)) (p := ⟨b4, 0, none⟩) N45.out.symm (.int .i64 en)); have f5' := free_of_one (bp_set (bp_set x5 (p := ⟨b3, 0, none⟩) N35.out.symm (.slice (some ad7) l.length cc7)) (p := ⟨b4, 0, none⟩) N45.out.symm (.int .i64 en)); clear hb ho x3 x4 x5))
    go_end0
    exact ⟨⟨_, rfl⟩, .inl ⟨w7, _, HB7.out, HO7.out, .inr ⟨_, _, _, rfl, HNE.out⟩, rfl⟩⟩
  · rw [if_neg c1] at H
    have d1 : decide (en < sl) = false := decide_eq_false c1
    clear c1
    by_cases c2 : en = sl
    · rw [if_pos c2] at H
      obtain rfl := (Option.some.inj H).symm
      have d2 : (en == sl) = true := beq_iff_eq.mpr c2
      clear H c2
      go_enter Try.func51, Try.ntmps51
      go_wp2_with (first | (go_at_call 52; refine HE.out.mono ?_; rintro e w6 ⟨rfl, hb⟩; have c3 := cell_of_one ((hb.block b3 (lt_of_block H3.out)).trans H3.out); have c4 := cell_of_one ((hb.block b4 (lt_of_block H4.out)).trans H4.out); have c5 := cell_of_one ((hb.block b5 (lt_of_block H5.out)).trans H5.out); have f5 := free_of_one ((hb.block b5 (lt_of_block H5.out)).trans H5.out); have HB6 := Aside0.mk hb; clear hb))
      go_end0
      exact ⟨⟨_, rfl⟩, .inr (.inl ⟨w6, HB6.out, rfl, rfl, rfl⟩)⟩
    · rw [if_neg c2] at H
      obtain rfl := (Option.some.inj H).symm
      have d2 : (en == sl) = false := beq_eq_false_iff_ne.mpr c2
      clear H c2
      go_enter Try.func51, Try.ntmps51
      go_wp2_with (first | (go_at_call 52; refine HE.out.mono ?_; rintro e w6 ⟨rfl, hb⟩; have c3 := cell_of_one ((hb.block b3 (lt_of_block H3.out)).trans H3.out); have c4 := cell_of_one ((hb.block b4 (lt_of_block H4.out)).trans H4.out); have c5 := cell_of_one ((hb.block b5 (lt_of_block H5.out)).trans H5.out); have f5 := free_of_one ((hb.block b5 (lt_of_block H5.out)).trans H5.out); have HB6 := Aside0.mk hb; clear hb))
      go_end0
      exact ⟨⟨_, rfl⟩, .inr (.inr ⟨HB6.out, rfl⟩)⟩
/-- Between the calls: the boxes, and the plan that is kept, which is none of the list's block b. -/
def BestPlans.J (w0 : World) (jobs : List Int) (Aj : Option Addr) (cj : Nat) (m : Int) (b1 b2 b3 b4 b5 N b : Nat) (s : List Int × Int × Int) (W : World) : Prop :=
  Below w0.heap.size w0 W ∧ W.heap[b1]? = some (.cells #[.slice Aj jobs.length cj] 22 (0, 0)) ∧ W.heap[b2]? = some (.cells #[.int .i64 m] 3 (0, 0)) ∧ (∃ v, W.heap[b3]? = some (.cells #[v] 22 (0, 0)) ∧ BestPlans.slot v s.1 ∧ Kd.R (Kd.int .i64) 3 W N (fun k => k ≠ b) v s.1) ∧
    W.heap[b4]? = some (.cells #[.int .i64 s.2.1] 3 (0, 0)) ∧ W.heap[b5]? = some (.cells #[.int .i64 s.2.2] 3 (0, 0))
theorem BestPlans.mv {w0 : World} {jobs : List Int} {Aj : Option Addr} {cj : Nat} {m : Int} {b1 b2 b3 b4 b5 N : Nat} (h0 : w0.heap.size ≤ N) (h1 : b1 < N) (h2 : b2 < N) (h3 : b3 < N) (h4 : b4 < N) (h5 : b5 < N) :
    ∀ b s W W1, N ≤ b → N ≤ W.heap.size → BestPlans.J w0 jobs Aj cj m b1 b2 b3 b4 b5 N b s W → KeepO b W W1 → BestPlans.J w0 jobs Aj cj m b1 b2 b3 b4 b5 N b s W1 := by
  intro b s W W1 hb hN ⟨j0, j1, j2, ⟨v, j3, j3', j3''⟩, j4, j5⟩ k
  have kk : ∀ q, q < N → W1.heap[q]? = W.heap[q]? := fun q hq => k.block q (by omega) (by omega)
  exact ⟨j0.trans ((k.below hb hN).mono h0), (kk b1 h1).trans j1, (kk b2 h2).trans j2, ⟨v, (kk b3 h3).trans j3, j3', Kd.R_step j3'' (fun q hq hl => k.block q hl hq)⟩, (kk b4 h4).trans j4, (kk b5 h5).trans j5⟩
theorem BestPlans.step {w0 : World} {jobs : List Int} {Aj : Option Addr} {cj : Nat} {m : Int} {b1 b2 b3 b4 b5 N b : Nat} {s s' : List Int × Int × Int} {W W' : World} (h0 : w0.heap.size ≤ b1) (h12 : b1 < b2) (h23 : b2 < b3) (h34 : b3 < b4) (h45 : b4 < b5) (h5N : b5 < N) (hb : N ≤ b) (hlt : b < W.heap.size)
    (h : BestPlans.J w0 jobs Aj cj m b1 b2 b3 b4 b5 N b s W) (hp : BestPlans.Post s s' b3 b4 b5 W W') : BestPlans.J w0 jobs Aj cj m b1 b2 b3 b4 b5 N b s' W' ∧ W.heap.size ≤ W'.heap.size ∧ ∀ q, N ≤ q → q < W.heap.size → W'.heap[q]? = W.heap[q]? := by
  obtain ⟨j0, j1, j2, ⟨v, j3, j3', j3''⟩, j4, j5⟩ := h
  rcases hp with ⟨W1, v', k, hR, hs, rfl⟩ | ⟨W1, k, e1, e2, rfl⟩ | ⟨k, rfl⟩
  · have kk : ∀ q, q < W.heap.size → W1.heap[q]? = W.heap[q]? := k.block
    have hsz := k.size
    have hR2 : Kd.R (Kd.int .i64) 3 (((W1.setCell ⟨b3, 0, none⟩ v').setCell ⟨b4, 0, none⟩ (.int .i64 s'.2.1)).setCell ⟨b5, 0, none⟩ (.int .i64 s'.2.2)) N (fun k => k ≠ b) v' s'.1 := by
      have r1 := Kd.R_mono (Kd.R_bound hR) (ok' := fun q => W.heap.size ≤ q) (fun q hq => hq.2.1)
      have r2 := Kd.R_far (p := ⟨b3, 0, none⟩) r1 (fun q hq => by show q ≠ b3; have : W.heap.size ≤ q := hq; omega) v'
      have r3 := Kd.R_far (p := ⟨b4, 0, none⟩) r2 (fun q hq => by show q ≠ b4; have : W.heap.size ≤ q := hq; omega) (.int .i64 s'.2.1)
      have r4 := Kd.R_far (p := ⟨b5, 0, none⟩) r3 (fun q hq => by show q ≠ b5; have : W.heap.size ≤ q := hq; omega) (.int .i64 s'.2.2)
      exact Kd.R_lower (Kd.R_mono r4 (fun q hq => by have : W.heap.size ≤ q := hq; omega)) (by omega)
    refine ⟨⟨?_, ?_, ?_, ⟨v', ?_, hs, hR2⟩, ?_, ?_⟩, by simpa [World.setCell] using hsz, fun q q1 q2 => ?_⟩
    · exact (((j0.trans (k.mono (by omega))).setCell (show w0.heap.size ≤ b3 by omega) _).setCell (show w0.heap.size ≤ b4 by omega) _).setCell (show w0.heap.size ≤ b5 by omega) _
    · exact bp_set (bp_set (bp_set ((kk b1 (by omega)).trans j1) (p := ⟨b3, 0, none⟩) (by show b1 ≠ b3; omega) _) (p := ⟨b4, 0, none⟩) (by show b1 ≠ b4; omega) _) (p := ⟨b5, 0, none⟩) (by show b1 ≠ b5; omega) _
    · exact bp_set (bp_set (bp_set ((kk b2 (by omega)).trans j2) (p := ⟨b3, 0, none⟩) (by show b2 ≠ b3; omega) _) (p := ⟨b4, 0, none⟩) (by show b2 ≠ b4; omega) _) (p := ⟨b5, 0, none⟩) (by show b2 ≠ b5; omega) _
    · exact bp_set (bp_set (one_setCell ((kk b3 (by omega)).trans j3)) (p := ⟨b4, 0, none⟩) (by show b3 ≠ b4; omega) _) (p := ⟨b5, 0, none⟩) (by show b3 ≠ b5; omega) _
    · exact bp_set (one_setCell (bp_set ((kk b4 (by omega)).trans j4) (p := ⟨b3, 0, none⟩) (by show b4 ≠ b3; omega) _)) (p := ⟨b5, 0, none⟩) (by show b4 ≠ b5; omega) _
    · exact one_setCell (bp_set (bp_set ((kk b5 (by omega)).trans j5) (p := ⟨b3, 0, none⟩) (by show b5 ≠ b3; omega) _) (p := ⟨b4, 0, none⟩) (by show b5 ≠ b4; omega) _)
    · rw [Below.heap_setCell _ _ _ _ (by show q ≠ b5; omega), Below.heap_setCell _ _ _ _ (by show q ≠ b4; omega), Below.heap_setCell _ _ _ _ (by show q ≠ b3; omega)]
      exact kk q q2
  · have kk : ∀ q, q < W.heap.size → W1.heap[q]? = W.heap[q]? := k.block
    have hsz := k.size
    have hR2 : Kd.R (Kd.int .i64) 3 (W1.setCell ⟨b5, 0, none⟩ (.int .i64 s'.2.2)) N (fun k => k ≠ b) v s'.1 := by
      rw [e1]
      have r1 := Kd.R_mono (Kd.R_bound (Kd.R_below j3'' k)) (ok' := fun q => q ≠ b ∧ N ≤ q) (fun q hq => ⟨hq.1, hq.2.1⟩)
      exact Kd.R_mono (Kd.R_far (p := ⟨b5, 0, none⟩) r1 (fun q hq => by show q ≠ b5; have := hq.2; omega) (.int .i64 s'.2.2)) (fun q hq => hq.1)
    refine ⟨⟨?_, ?_, ?_, ⟨v, ?_, by rw [e1]; exact j3', hR2⟩, ?_, ?_⟩, by simpa [World.setCell] using hsz, fun q q1 q2 => ?_⟩
    · exact (j0.trans (k.mono (by omega))).setCell (show w0.heap.size ≤ b5 by omega) _
    · exact bp_set ((kk b1 (by omega)).trans j1) (p := ⟨b5, 0, none⟩) (by show b1 ≠ b5; omega) _
    · exact bp_set ((kk b2 (by omega)).trans j2) (p := ⟨b5, 0, none⟩) (by show b2 ≠ b5; omega) _
    · exact bp_set ((kk b3 (by omega)).trans j3) (p := ⟨b5, 0, none⟩) (by show b3 ≠ b5; omega) _
    · rw [e2]; exact bp_set ((kk b4 (by omega)).trans j4) (p := ⟨b5, 0, none⟩) (by show b4 ≠ b5; omega) _
    · exact one_setCell ((kk b5 (by omega)).trans j5)
    · rw [Below.heap_setCell _ _ _ _ (by show q ≠ b5; omega)]
      exact kk q q2
  · have kk : ∀ q, q < W.heap.size → W'.heap[q]? = W.heap[q]? := k.block
    exact ⟨⟨j0.trans (k.mono (by omega)), (kk b1 (by omega)).trans j1, (kk b2 (by omega)).trans j2, ⟨v, (kk b3 (by omega)).trans j3, j3', Kd.R_below j3'' k⟩, (kk b4 (by omega)).trans j4, (kk b5 (by omega)).trans j5⟩, k.size, fun q _ q2 => kk q q2⟩
theorem BestPlans.two (w : World) (o1 o2 : Obj) : ((w.alloc o1).alloc o2).heap.size = w.heap.size + 2 ∧ ((w.alloc o1).alloc o2).heap[w.heap.size]? = some o1 ∧ ((w.alloc o1).alloc o2).heap[w.heap.size + 1]? = some o2 := by
  have hh : ((w.alloc o1).alloc o2).heap = (w.heap.push o1).push o2 := rfl
  rw [hh]
  refine ⟨by simp, ?_, ?_⟩
  · rw [Array.getElem?_push, if_neg (by rw [Array.size_push]; omega), Array.getElem?_push, if_pos rfl]
  · rw [Array.getElem?_push, if_pos (by rw [Array.size_push])]
/-- Three new boxes. -/
def BestPlans.made (w1 : World) : World := ((w1.alloc (.cells #[.slice none 0 0] 22)).alloc (.cells #[.int .i64 0] 3)).alloc (.cells #[.int .i64 0] 3)
theorem BestPlans.three (w1 : World) (o3 o4 o5 : Obj) : (((w1.alloc o3).alloc o4).alloc o5).heap.size = w1.heap.size + 3 ∧ (((w1.alloc o3).alloc o4).alloc o5).heap[w1.heap.size]? = some o3 ∧ (((w1.alloc o3).alloc o4).alloc o5).heap[w1.heap.size + 1]? = some o4 ∧ (((w1.alloc o3).alloc o4).alloc o5).heap[w1.heap.size + 2]? = some o5 ∧ ∀ q, q < w1.heap.size → (((w1.alloc o3).alloc o4).alloc o5).heap[q]? = w1.heap[q]? := by
  have hh : (((w1.alloc o3).alloc o4).alloc o5).heap = ((w1.heap.push o3).push o4).push o5 := rfl
  rw [hh]
  refine ⟨by simp, ?_, ?_, ?_, fun q hq => ?_⟩
  · rw [Array.getElem?_push, if_neg (by rw [Array.size_push, Array.size_push]; omega), Array.getElem?_push, if_neg (by rw [Array.size_push]; omega), Array.getElem?_push, if_pos rfl]
  · rw [Array.getElem?_push, if_neg (by rw [Array.size_push, Array.size_push]; omega), Array.getElem?_push, if_pos (by rw [Array.size_push])]
  · rw [Array.getElem?_push, if_pos (by rw [Array.size_push, Array.size_push])]
  · rw [Array.getElem?_push, if_neg (by rw [Array.size_push, Array.size_push]; omega), Array.getElem?_push, if_neg (by rw [Array.size_push]; omega), Array.getElem?_push, if_neg (by omega)]
theorem results_tmp4 {fn : Func} {t u v x : Tmp} (h : fn.results = #[.tmp t, .tmp u, .tmp v, .tmp x]) (tmps : Array Value) (P : Program) (w : World) :
    (results fn tmps).run P w = .ok (.tuple #[tmps.getD t undef, tmps.getD u undef, tmps.getD v undef, tmps.getD x undef]) w := by
  simp [results, h]
theorem BestPlans.made_size (w1 : World) : (BestPlans.made w1).heap.size = w1.heap.size + 3 := (BestPlans.three w1 (.cells #[.slice none 0 0] 22) (.cells #[.int .i64 0] 3) (.cells #[.int .i64 0] 3)).1
theorem BestPlans.hf {A0 : Option Addr} {c0 : Nat} {l0 : List Int} {a1 : Int} {w w1 : World} (hr : Kd.C (Kd.int .i64) w A0 l0.length l0) (hc : l0.length ≤ c0) (hs : w.heap.size + 2 ≤ w1.heap.size) :
    ∀ b k' s s' W (A : Option Addr) (c : Nat) (l : List Int), BestPlans.cb l0 a1 k' s l = some s' → BestPlans.J w l0 A0 c0 a1 w.heap.size (w.heap.size + 1) w1.heap.size (w1.heap.size + 1) (w1.heap.size + 1 + 1) (w1.heap.size + 3) b s W → (BestPlans.made w1).heap.size ≤ b → b < W.heap.size → Kd.C (Kd.int .i64) W A l.length l → l.length ≤ c → Calls Try.prog 51 (#[.slice A l.length c] ++ #[.pointer (some ⟨w.heap.size, 0, none⟩), .pointer (some ⟨w.heap.size + 1, 0, none⟩), .pointer (some ⟨w1.heap.size, 0, none⟩), .pointer (some ⟨w1.heap.size + 1, 0, none⟩), .pointer (some ⟨w1.heap.size + 1 + 1, 0, none⟩)]) W fun e W' => (∃ v, e = .returned v) ∧ BestPlans.J w l0 A0 c0 a1 w.heap.size (w.heap.size + 1) w1.heap.size (w1.heap.size + 1) (w1.heap.size + 1 + 1) (w1.heap.size + 3) b s' W' ∧ W.heap.size ≤ W'.heap.size ∧ ∀ q, (BestPlans.made w1).heap.size ≤ q → q < W.heap.size → W'.heap[q]? = W.heap[q]? := by
  intro b k' s s' W A c l h1 h2 h3 h4 h5 h6
  rw [BestPlans.made_size] at h3
  rw [BestPlans.made_size]
  obtain ⟨j0, j1, j2, ⟨v, j3, j3', j3''⟩, j4, j5⟩ := id h2
  refine (BestPlans.each k' l0 a1 s s' _ _ _ _ _ A0 c0 A c l v W ?_ j1 j2 j3 j4 j5 (by omega) (by omega) (by omega) j3' (Kd.C_below hr j0) hc h5 h6 h1).mono ?_
  · rintro rfl
    rw [BestPlans.cb, if_pos rfl] at h1
    cases h1
  · rintro e W' ⟨p1, p2⟩
    exact ⟨p1, BestPlans.step (Nat.le_refl _) (by omega) (by omega) (by omega) (by omega) (by omega) h3 h4 h2 p2⟩
theorem BestPlans.hmv {A0 : Option Addr} {c0 : Nat} {l0 : List Int} {a1 : Int} {w w1 : World} (hs : w.heap.size + 2 ≤ w1.heap.size) :
    ∀ b s W W1, (BestPlans.made w1).heap.size ≤ b → (BestPlans.made w1).heap.size ≤ W.heap.size → BestPlans.J w l0 A0 c0 a1 w.heap.size (w.heap.size + 1) w1.heap.size (w1.heap.size + 1) (w1.heap.size + 1 + 1) (w1.heap.size + 3) b s W → KeepO b W W1 → BestPlans.J w l0 A0 c0 a1 w.heap.size (w.heap.size + 1) w1.heap.size (w1.heap.size + 1) (w1.heap.size + 1 + 1) (w1.heap.size + 3) b s W1 := by
  intro b s W W1 h1 h2 h3 h4
  rw [BestPlans.made_size] at h1 h2
  exact BestPlans.mv (by omega) (by omega) (by omega) (by omega) (by omega) (by omega) b s W W1 h1 h2 h3 h4
theorem BestPlans.hJ {A0 : Option Addr} {c0 : Nat} {l0 : List Int} {a1 : Int} {w w1 : World} (hb : Below w.heap.size w w1) (y1 : (BestPlans.made w1).heap[w.heap.size]? = some (.cells #[.slice A0 l0.length c0] 22 (0, 0))) (y2 : (BestPlans.made w1).heap[w.heap.size + 1]? = some (.cells #[.int .i64 a1] 3 (0, 0))) (hs : w.heap.size + 2 ≤ w1.heap.size) :
    ∀ b W, (BestPlans.made w1).heap.size ≤ b → Below (BestPlans.made w1).heap.size (BestPlans.made w1) W → BestPlans.J w l0 A0 c0 a1 w.heap.size (w.heap.size + 1) w1.heap.size (w1.heap.size + 1) (w1.heap.size + 1 + 1) (w1.heap.size + 3) b ([], 0, 0) W := by
  intro b W h1 h2
  have hsz := BestPlans.made_size w1
  have ht := BestPlans.three w1 (.cells #[.slice none 0 0] 22) (.cells #[.int .i64 0] 3) (.cells #[.int .i64 0] 3)
  have kk : ∀ q, q < w1.heap.size + 3 → W.heap[q]? = (BestPlans.made w1).heap[q]? := fun q hq => h2.block q (by omega)
  have hbm : Below w.heap.size w (BestPlans.made w1) := below_alloc (below_alloc (below_alloc hb _) _) _
  exact ⟨hbm.trans (h2.mono (by omega)), (kk _ (by omega)).trans y1, (kk _ (by omega)).trans y2, ⟨.slice none 0 0, (kk _ (by omega)).trans ht.2.1, .inl ⟨rfl, rfl⟩, Kd.R_nil _ _ _ _ _⟩, (kk _ (by omega)).trans ht.2.2.1, (kk _ (by omega)).trans ht.2.2.2.1⟩
set_option maxHeartbeats 8000000 in
set_option maxRecDepth 100000 in
theorem impl_bestPlans.calls (k : Nat) (A0 : Option Addr) (c0 : Nat) (l0 : List Int) (a1 : Int) (r1 : Int) (r2 : List Int) (r3 : Int) (r4 : Bool) (w : World) (hr0 : Kd.C (Kd.int .i64) w A0 l0.length l0) (hc0 : l0.length ≤ c0) (h : impl_bestPlans.f k l0 a1 = some (r1, r2, r3, r4)) :
    Calls Try.prog 35 #[.slice A0 l0.length c0, .int .i64 a1] w fun e w' => ∃ v0_ : Value, e = .returned (.tuple #[.int .i64 r1, v0_, .int .i64 r3, .bool r4]) ∧ Kd.R (Kd.int .i64) 3 w' w.heap.size (fun _ => True) v0_ r2 ∧ Below w.heap.size w w' := by
  have eg : ∀ args w, (callFunc 51 args).run Try.prog w = .ok (.enter 51 args) w := enters_of Try.func51 (by kernel_rfl) rfl
  obtain ⟨t, hA, H⟩ := Option.bind_eq_some_iff.mp h
  have HR := Aside0.mk hr0
  have HC := Aside0.mk hc0
  have HA := Aside0.mk hA
  have EG := Aside0.mk eg
  have b1c := @cell_of_one ((w.alloc (.cells #[.slice A0 l0.length c0] 22)).alloc (.cells #[.int .i64 a1] 3)) w.heap.size (.slice A0 l0.length c0) 22 (BestPlans.two w _ _).2.1
  have b2c := @cell_of_one ((w.alloc (.cells #[.slice A0 l0.length c0] 22)).alloc (.cells #[.int .i64 a1] 3)) (w.heap.size + 1) (.int .i64 a1) 3 (BestPlans.two w _ _).2.2
  clear hA h hr0 hc0 eg
  cases t with
  | false =>
    rw [if_neg (by decide)] at H
    cases H
    go_enter Try.func35, Try.ntmps35
    go_wp2_with (go_at_call 28; refine (impl_areMachines.calls A0 c0 l0 a1 false _ (Kd.C_alloc (Kd.C_alloc HR.out _) _) HC.out HA.out).mono ?_; rintro e w1 ⟨rfl, hb⟩)
    ((try simp only [Exit.inBlock, Exit.then]); refine bodyPost_ret (results_tmp4 rfl _ _ _) rfl ?_)
    exact ⟨_, rfl, Kd.R_nil _ _ _ _ _, below_step (below_alloc (below_alloc (Below.refl _ _) _) _) hb⟩
  | true =>
    rw [if_pos rfl] at H
    obtain ⟨⟨z1, z2, z3⟩, hL, H⟩ := Option.bind_eq_some_iff.mp H
    cases H
    have HL := Aside0.mk hL
    clear hL
    go_enter Try.func35, Try.ntmps35
    go_wp2_with (first | (go_at_call 28; refine (impl_areMachines.calls A0 c0 l0 a1 true _ (Kd.C_alloc (Kd.C_alloc HR.out _) _) HC.out HA.out).mono ?_; rintro e w1 ⟨rfl, hb⟩; have g1 := (hb.block w.heap.size (by simp; omega)).trans (BestPlans.two w (.cells #[.slice A0 l0.length c0] 22) (.cells #[.int .i64 a1] 3)).2.1; have g2 := (hb.block (w.heap.size + 1) (by simp)).trans (BestPlans.two w (.cells #[.slice A0 l0.length c0] 22) (.cells #[.int .i64 a1] 3)).2.2; have HB1 := Aside0.mk (below_step (below_alloc (below_alloc (Below.refl w.heap.size w) _) _) hb); have HG1 := Aside0.mk g1; have HG2 := Aside0.mk g2; have HT := Aside0.mk (BestPlans.three w1 (.cells #[.slice none 0 0] 22) (.cells #[.int .i64 0] 3) (.cells #[.int .i64 0] 3)); have hsz1 := hb.size; rw [(BestPlans.two w _ _).1] at hsz1; have y1 := (HT.out.2.2.2.2 w.heap.size (by omega)).trans HG1.out; have y2 := (HT.out.2.2.2.2 (w.heap.size + 1) (by omega)).trans HG2.out; have z1c := cell_of_one y1; have z2c := cell_of_one y2; have Y1 := Aside0.mk y1; have Y2 := Aside0.mk y2; have HSZ := Aside0.mk hsz1; have HLC := Aside0.mk (impl_listsOf.calls (BestPlans.cb l0 a1) k (l0.length : Int) (wrap64 (a1 - 1)) 51 #[.pointer (some ⟨w.heap.size, 0, none⟩), .pointer (some ⟨w.heap.size + 1, 0, none⟩), .pointer (some ⟨w1.heap.size, 0, none⟩), .pointer (some ⟨w1.heap.size + 1, 0, none⟩), .pointer (some ⟨w1.heap.size + 1 + 1, 0, none⟩)] ([], 0, 0) (z1, z2, z3) (BestPlans.J w l0 A0 c0 a1 w.heap.size (w.heap.size + 1) w1.heap.size (w1.heap.size + 1) (w1.heap.size + 1 + 1) (w1.heap.size + 3)) (BestPlans.made w1) EG.out (BestPlans.hf HR.out HC.out HSZ.out) (BestPlans.hmv HSZ.out) (BestPlans.hJ HB1.out Y1.out Y2.out HSZ.out) HL.out); clear hb g1 g2 y1 y2 hsz1) | (go_at_call 50; refine HLC.out.mono ?_; rintro e w8 ⟨rfl, b8, hb8, hj⟩; obtain ⟨j0, j1, j2, ⟨v8, j3, j3', j3''⟩, j4, j5⟩ := hj; have q3 := cell_of_one j3; have q4 := cell_of_one j4; have q5 := cell_of_one j5; have HJ0 := Aside0.mk j0; have HJR := Aside0.mk (Kd.R_lower (Kd.R_mono j3'' (ok' := fun _ => True) (fun _ _ => trivial)) (show w.heap.size ≤ w1.heap.size + 3 by have := HSZ.out; omega)); clear j0 j1 j2 j3 j3' j3'' j4 j5))
    go_region
    all_goals (try go_wp2)
    all_goals ((try simp only [Exit.inBlock, Exit.then]); refine bodyPost_ret (results_tmp4 rfl _ _ _) rfl ?_)
    all_goals exact ⟨_, rfl, (by (with_reducible repeat (first | apply Kd.R_alloc | apply Kd.R_drewN | apply Kd.R_drew)); exact HJR.out), (by repeat (first | (with_reducible first | exact HJ0.out | apply below_alloc | apply pw_below_drewN | apply below_drew1) | exact HJ0.out))⟩

/-! ### impl_CountBestPlans: function 20 -/
def impl_CountBestPlans.f (k : Nat) (l0 : List Int) (a1 : Int) : Option (Int × Bool) := (impl_bestPlans.f k l0 a1).bind fun bt144 => (some (bt144.2.2.1, bt144.2.2.2))
theorem impl_CountBestPlans.mono : ∀ a0 a1 k, LeO (impl_CountBestPlans.f k a0 a1) (impl_CountBestPlans.f (k + 1) a0 a1) := by
  intro a0 a1 k
  unfold impl_CountBestPlans.f
  repeat' first
      | (with_reducible exact impl_bestPlans.mono _ _ _)
      | (with_reducible exact LeO.refl _)
      | (with_reducible exact LeO.none _)
      | (with_reducible refine LeO.ite ?_ ?_)
      | (with_reducible refine LeO.bind ?_ (fun _ => ?_))
      | exact impl_bestPlans.mono _ _ _
      | exact LeO.none _
      | refine LeO.ite ?_ ?_
      | refine LeO.bind ?_ (fun _ => ?_)
set_option maxHeartbeats 8000000 in
set_option maxRecDepth 100000 in
theorem impl_CountBestPlans.calls (k : Nat) (A0 : Option Addr) (c0 : Nat) (l0 : List Int) (a1 : Int) (r1 : Int) (r2 : Bool) (w : World) (hr0 : Kd.C (Kd.int .i64) w A0 l0.length l0) (hc0 : l0.length ≤ c0) (h : impl_CountBestPlans.f k l0 a1 = some (r1, r2)) :
    Calls Try.prog 20 #[.slice A0 l0.length c0, .int .i64 a1] w fun e w' => e = .returned (.tuple #[.int .i64 r1, .bool r2]) ∧ Below w.heap.size w w' := by
  have HR0 := Aside0.mk hr0
  have HC0 := Aside0.mk hc0
  clear hr0 hc0
  have HB := Aside0.mk (Below.refl w.heap.size w)
  have H : ((impl_bestPlans.f k l0 a1).bind fun bt144 => (some (bt144.2.2.1, bt144.2.2.2))) = some (r1, r2) := h
  clear h
  replace H := Option.bind_eq_some_iff.mp H
  obtain ⟨⟨t144, t145, t146, t147⟩, A30, H⟩ := H
  replace H : (some (t146, t147)) = some (r1, r2) := H
  have A3 := Aside0.mk A30
  clear A30
  simp only [Option.some.injEq, Prod.mk.injEq] at H
  obtain ⟨rfl, rfl⟩ := H
  go_enter Try.func20, Try.ntmps20
  go_wp2_with (first | ((with_reducible refine gate_callee (f := 35) rfl ?_); refine goesL_ (some 13) rfl rfl Try.func35 (by kernel_rfl) rfl #[.slice A0 l0.length c0, .int .i64 a1] rfl (by (try simp only [List.map_toArray, List.map_cons, List.map_nil]); first | done | rfl | (simp only [List.length_drop, List.length_take]; rfl)) ?_; (with_reducible refine (impl_bestPlans.calls k _ _ l0 a1 t144 t145 t146 t147 _ ?side1 ?side2 A3.out).mono ?_); (case side1 => repeat (first | exact HR0.out | (with_reducible refine Kd.C_alloc ?_ _) | (with_reducible refine Kd.C_drewN ?_ _) | (with_reducible refine Kd.C_drew ?_))); (case side2 => exact HC0.out); rintro e w4 ⟨v148, rfl, ho0, hb⟩; refine ⟨_, rfl, ?_⟩; have n0_ := Aside0.mk (Kd.R_lower ho0 (below_size (by repeat (first | (with_reducible first | exact HB.out | apply below_alloc | apply pw_below_drewN | apply below_drew1) | exact HB.out)))); have n1_ := Aside0.mk (below_step (by repeat (first | (with_reducible first | exact HB.out | apply below_alloc | apply pw_below_drewN | apply below_drew1) | exact HB.out)) hb); clear HB; have HO149 := n0_; have HB := n1_; clear n0_ n1_; (try clear hb); (try clear hb2); (try clear hk); (try clear hi); (try clear ho0)))
  go_ret2
  exact ⟨by first | rfl | (simp [errW_none, errW_some] <;> rfl) | (simp [*, errW_none, errW_some] <;> rfl), by repeat (first | (with_reducible first | exact HB.out | apply below_alloc | apply pw_below_drewN | apply below_drew1) | exact HB.out)⟩

end Go.Proofs.Yteneeeepocefaaa.PFnExactCountBestPlans
