-- Written by a program of this session (wip/tool/myprint.py) over the translation. Not trusted: Lean checks it.
import Derived.Test.YtffhhhkdnkdlgaaDoorPFnRingAgainx0
import Derived.Test.YtffhhhkdnkdlgaaDoorPFnRingAgainx2
import Derived.Test.YtffhhhkdnkdlgaaDoorPFnRingAgainx3
namespace Go.Proofs.YtffhhhkdnkdlgaaDoor.PFnRingAgain
open Go.RowKit Go.Proofs.YtffhhhkdnkdlgaaDoorW.PrintWords Go.Proofs.YtffhhhkdnkdlgaaDoorW.PrintLast Go.Proofs.YtffhhhkdnkdlgaaDoorW.PrintMore
attribute [local go_sem] max2_int min2_int max_two min_two max_three min_three max_four min_four   -- for this text's walks alone
set_option linter.unusedVariables false
set_option linter.unusedSimpArgs false

/-! ### laws_FnRingAgain: function 3 -/
mutual
def laws_FnRingAgain.j0 : Nat → List Int → Int → Int → Bool → Int → Bool → Option (Bool)
  | 0, _, _, _, _, _, _ => none
  | k + 1, x0, x1, x5, x6, x9, x50 => if x50 = true then (some false) else (if x6 = true then (if x1 < 0 then (laws_FnRingAgain.j1 k x0 x1 x5 x9 true) else (laws_FnRingAgain.j1 k x0 x1 x5 x9 (decide (x1 > 1000000)))) else (laws_FnRingAgain.j1 k x0 x1 x5 x9 true))
def laws_FnRingAgain.j1 : Nat → List Int → Int → Int → Int → Bool → Option (Bool)
  | 0, _, _, _, _, _ => none
  | k + 1, x0, x1, x5, x9, x60 => if x60 = true then (some true) else ((impl_RingAfter.f k x0 (wrap64 (x5 + x1))).bind fun bt210 => ((impl_RingAfter.f k x0 (wrap64 ((wrap64 (x5 + x1)) + x9))).bind fun bt214 => (if (mx x9 1) = 0 then (none) else ((impl_RingAfter.f k x0 (wrap64 ((wrap64 ((wrap64 (x5 + x1)) + 1)) + (Int.tmod x1 (mx x9 1))))).bind fun bt218 => (if bt210.2 = true then (if bt214.2 = true then (laws_FnRingAgain.j2 k x1 x9 bt210.1 bt214.1 bt218.1 (!bt218.2)) else (laws_FnRingAgain.j2 k x1 x9 bt210.1 bt214.1 bt218.1 true)) else (laws_FnRingAgain.j2 k x1 x9 bt210.1 bt214.1 bt218.1 true))))))
def laws_FnRingAgain.j2 : Nat → Int → Int → List Int → List Int → List Int → Bool → Option (Bool)
  | 0, _, _, _, _, _, _ => none
  | k + 1, x1, x9, x11, x13, x15, x102 => if x102 = true then (some false) else (laws_FnRingAgain.l0 k x1 x9 x13 x15 true x11 (x11.length : Int) 0)
def laws_FnRingAgain.l0 : Nat → Int → Int → List Int → List Int → Bool → List Int → Int → Int → Option (Bool)
  | 0, _, _, _, _, _, _, _, _ => none
  | k + 1, x1, x9, x13, x15, x17, x103, x104, x105 => if x105 < x104 then (if 0 ≤ x105 then (if x105 < (x103.length : Int) then (if x17 = true then (if x105 < (x15.length : Int) then (if x105 < (x13.length : Int) then (if (rd x103 x105) = (rd x13 x105) then (laws_FnRingAgain.l0 k x1 x9 x13 x15 ((rd x103 x105) == (rd x15 x105)) x103 x104 (wrap64 (x105 + 1))) else (some false)) else (none)) else (none)) else (if x105 < (x13.length : Int) then (if (rd x103 x105) = (rd x13 x105) then (laws_FnRingAgain.l0 k x1 x9 x13 x15 false x103 x104 (wrap64 (x105 + 1))) else (some false)) else (none))) else (none)) else (none)) else (if x9 ≥ 1 then (if x9 = 0 then (none) else (some (x17 == ((Int.tmod (wrap64 (1 + (Int.tmod x1 x9))) x9) == 0)))) else (some false))
end
def laws_FnRingAgain.f (k : Nat) (l0 : List Int) (a1 : Int) : Option (Bool) := if (l0.length : Int) > 1000 then (some true) else ((impl_LeadOfRing.f k l0).bind fun bt204 => ((spec_LeadOfRing.f k l0).bind fun bt206 => ((impl_PeriodOfRing.f k l0).bind fun bt208 => (if (bt204.2 != bt206.2) = true then (laws_FnRingAgain.j0 k l0 a1 bt204.1 bt204.2 bt208.1 true) else (if bt204.1 = bt206.1 then (laws_FnRingAgain.j0 k l0 a1 bt204.1 bt204.2 bt208.1 (bt208.2 != bt204.2)) else (laws_FnRingAgain.j0 k l0 a1 bt204.1 bt204.2 bt208.1 true))))))
theorem laws_FnRingAgain.mono_l : ∀ k, (∀ y0 y1 y2 y3 y4 y5, LeO (laws_FnRingAgain.j0 k y0 y1 y2 y3 y4 y5) (laws_FnRingAgain.j0 (k + 1) y0 y1 y2 y3 y4 y5)) ∧ (∀ y0 y1 y2 y3 y4, LeO (laws_FnRingAgain.j1 k y0 y1 y2 y3 y4) (laws_FnRingAgain.j1 (k + 1) y0 y1 y2 y3 y4)) ∧ (∀ y0 y1 y2 y3 y4 y5, LeO (laws_FnRingAgain.j2 k y0 y1 y2 y3 y4 y5) (laws_FnRingAgain.j2 (k + 1) y0 y1 y2 y3 y4 y5)) ∧ (∀ y0 y1 y2 y3 y4 y5 y6 y7, LeO (laws_FnRingAgain.l0 k y0 y1 y2 y3 y4 y5 y6 y7) (laws_FnRingAgain.l0 (k + 1) y0 y1 y2 y3 y4 y5 y6 y7))
  | 0 => ⟨fun _ _ _ _ _ _ r h => by simp [laws_FnRingAgain.j0] at h, fun _ _ _ _ _ r h => by simp [laws_FnRingAgain.j1] at h, fun _ _ _ _ _ _ r h => by simp [laws_FnRingAgain.j2] at h, fun _ _ _ _ _ _ _ _ r h => by simp [laws_FnRingAgain.l0] at h⟩
  | k + 1 => by
    obtain ⟨ih0, ih1, ih2, ih3⟩ := laws_FnRingAgain.mono_l k
    refine ⟨?_, ?_, ?_, ?_⟩
    · intro y0 y1 y2 y3 y4 y5
      unfold laws_FnRingAgain.j0
      repeat' first
      | (with_reducible exact ih0 _ _ _ _ _ _)
      | (with_reducible exact ih1 _ _ _ _ _)
      | (with_reducible exact ih2 _ _ _ _ _ _)
      | (with_reducible exact ih3 _ _ _ _ _ _ _ _)
      | (with_reducible exact impl_LeadOfRing.mono _ _)
      | (with_reducible exact impl_PeriodOfRing.mono _ _)
      | (with_reducible exact impl_RingAfter.mono _ _ _)
      | (with_reducible exact spec_LeadOfRing.mono _ _)
      | (with_reducible exact LeO.refl _)
      | (with_reducible exact LeO.none _)
      | (with_reducible refine LeO.ite ?_ ?_)
      | (with_reducible refine LeO.bind ?_ (fun _ => ?_))
      | exact ih0 _ _ _ _ _ _
      | exact ih1 _ _ _ _ _
      | exact ih2 _ _ _ _ _ _
      | exact ih3 _ _ _ _ _ _ _ _
      | exact impl_LeadOfRing.mono _ _
      | exact impl_PeriodOfRing.mono _ _
      | exact impl_RingAfter.mono _ _ _
      | exact spec_LeadOfRing.mono _ _
      | exact LeO.none _
      | refine LeO.ite ?_ ?_
      | refine LeO.bind ?_ (fun _ => ?_)
    · intro y0 y1 y2 y3 y4
      unfold laws_FnRingAgain.j1
      repeat' first
      | (with_reducible exact ih0 _ _ _ _ _ _)
      | (with_reducible exact ih1 _ _ _ _ _)
      | (with_reducible exact ih2 _ _ _ _ _ _)
      | (with_reducible exact ih3 _ _ _ _ _ _ _ _)
      | (with_reducible exact impl_LeadOfRing.mono _ _)
      | (with_reducible exact impl_PeriodOfRing.mono _ _)
      | (with_reducible exact impl_RingAfter.mono _ _ _)
      | (with_reducible exact spec_LeadOfRing.mono _ _)
      | (with_reducible exact LeO.refl _)
      | (with_reducible exact LeO.none _)
      | (with_reducible refine LeO.ite ?_ ?_)
      | (with_reducible refine LeO.bind ?_ (fun _ => ?_))
      | exact ih0 _ _ _ _ _ _
      | exact ih1 _ _ _ _ _
      | exact ih2 _ _ _ _ _ _
      | exact ih3 _ _ _ _ _ _ _ _
      | exact impl_LeadOfRing.mono _ _
      | exact impl_PeriodOfRing.mono _ _
      | exact impl_RingAfter.mono _ _ _
      | exact spec_LeadOfRing.mono _ _
      | exact LeO.none _
      | refine LeO.ite ?_ ?_
      | refine LeO.bind ?_ (fun _ => ?_)
    · intro y0 y1 y2 y3 y4 y5
      unfold laws_FnRingAgain.j2
      repeat' first
      | (with_reducible exact ih0 _ _ _ _ _ _)
      | (with_reducible exact ih1 _ _ _ _ _)
      | (with_reducible exact ih2 _ _ _ _ _ _)
      | (with_reducible exact ih3 _ _ _ _ _ _ _ _)
      | (with_reducible exact impl_LeadOfRing.mono _ _)
      | (with_reducible exact impl_PeriodOfRing.mono _ _)
      | (with_reducible exact impl_RingAfter.mono _ _ _)
      | (with_reducible exact spec_LeadOfRing.mono _ _)
      | (with_reducible exact LeO.refl _)
      | (with_reducible exact LeO.none _)
      | (with_reducible refine LeO.ite ?_ ?_)
      | (with_reducible refine LeO.bind ?_ (fun _ => ?_))
      | exact ih0 _ _ _ _ _ _
      | exact ih1 _ _ _ _ _
      | exact ih2 _ _ _ _ _ _
      | exact ih3 _ _ _ _ _ _ _ _
      | exact impl_LeadOfRing.mono _ _
      | exact impl_PeriodOfRing.mono _ _
      | exact impl_RingAfter.mono _ _ _
      | exact spec_LeadOfRing.mono _ _
      | exact LeO.none _
      | refine LeO.ite ?_ ?_
      | refine LeO.bind ?_ (fun _ => ?_)
    · intro y0 y1 y2 y3 y4 y5 y6 y7
      unfold laws_FnRingAgain.l0
      repeat' first
      | (with_reducible exact ih0 _ _ _ _ _ _)
      | (with_reducible exact ih1 _ _ _ _ _)
      | (with_reducible exact ih2 _ _ _ _ _ _)
      | (with_reducible exact ih3 _ _ _ _ _ _ _ _)
      | (with_reducible exact impl_LeadOfRing.mono _ _)
      | (with_reducible exact impl_PeriodOfRing.mono _ _)
      | (with_reducible exact impl_RingAfter.mono _ _ _)
      | (with_reducible exact spec_LeadOfRing.mono _ _)
      | (with_reducible exact LeO.refl _)
      | (with_reducible exact LeO.none _)
      | (with_reducible refine LeO.ite ?_ ?_)
      | (with_reducible refine LeO.bind ?_ (fun _ => ?_))
      | exact ih0 _ _ _ _ _ _
      | exact ih1 _ _ _ _ _
      | exact ih2 _ _ _ _ _ _
      | exact ih3 _ _ _ _ _ _ _ _
      | exact impl_LeadOfRing.mono _ _
      | exact impl_PeriodOfRing.mono _ _
      | exact impl_RingAfter.mono _ _ _
      | exact spec_LeadOfRing.mono _ _
      | exact LeO.none _
      | refine LeO.ite ?_ ?_
      | refine LeO.bind ?_ (fun _ => ?_)
theorem laws_FnRingAgain.mono : ∀ a0 a1 k, LeO (laws_FnRingAgain.f k a0 a1) (laws_FnRingAgain.f (k + 1) a0 a1) := by
  intro a0 a1 k
  obtain ⟨ih0, ih1, ih2, ih3⟩ := laws_FnRingAgain.mono_l k
  unfold laws_FnRingAgain.f
  repeat' first
      | (with_reducible exact ih0 _ _ _ _ _ _)
      | (with_reducible exact ih1 _ _ _ _ _)
      | (with_reducible exact ih2 _ _ _ _ _ _)
      | (with_reducible exact ih3 _ _ _ _ _ _ _ _)
      | (with_reducible exact impl_LeadOfRing.mono _ _)
      | (with_reducible exact impl_PeriodOfRing.mono _ _)
      | (with_reducible exact impl_RingAfter.mono _ _ _)
      | (with_reducible exact spec_LeadOfRing.mono _ _)
      | (with_reducible exact LeO.refl _)
      | (with_reducible exact LeO.none _)
      | (with_reducible refine LeO.ite ?_ ?_)
      | (with_reducible refine LeO.bind ?_ (fun _ => ?_))
      | exact ih0 _ _ _ _ _ _
      | exact ih1 _ _ _ _ _
      | exact ih2 _ _ _ _ _ _
      | exact ih3 _ _ _ _ _ _ _ _
      | exact impl_LeadOfRing.mono _ _
      | exact impl_PeriodOfRing.mono _ _
      | exact impl_RingAfter.mono _ _ _
      | exact spec_LeadOfRing.mono _ _
      | exact LeO.none _
      | refine LeO.ite ?_ ?_
      | refine LeO.bind ?_ (fun _ => ?_)
set_option maxHeartbeats 8000000 in
set_option maxRecDepth 100000 in
theorem laws_FnRingAgain.calls (k : Nat) (A0 : Option Addr) (c0 : Nat) (l0 : List Int) (a1 : Int) (r : Bool) (w : World) (hr0 : Kd.C (Kd.int .i64) w A0 l0.length l0) (hc0 : l0.length ≤ c0) (hG : Gl w) (h : laws_FnRingAgain.f k l0 a1 = some r) :
    Calls Tryd.prog 3 #[.slice A0 l0.length c0, .int .i64 a1] w fun e w' => e = .returned (.bool r) ∧ Below w.heap.size w w' := by
  have HR0 := Aside0.mk hr0
  have HC0 := Aside0.mk hc0
  clear hr0 hc0
  have HG := Aside0.mk hG
  clear hG
  have HB := Aside0.mk (Below.refl w.heap.size w)
  have H : (if (l0.length : Int) > 1000 then (some true) else ((impl_LeadOfRing.f k l0).bind fun bt204 => ((spec_LeadOfRing.f k l0).bind fun bt206 => ((impl_PeriodOfRing.f k l0).bind fun bt208 => (if (bt204.2 != bt206.2) = true then (laws_FnRingAgain.j0 k l0 a1 bt204.1 bt204.2 bt208.1 true) else (if bt204.1 = bt206.1 then (laws_FnRingAgain.j0 k l0 a1 bt204.1 bt204.2 bt208.1 (bt208.2 != bt204.2)) else (laws_FnRingAgain.j0 k l0 a1 bt204.1 bt204.2 bt208.1 true))))))) = some r := h
  clear h
  by_cases c3 : (l0.length : Int) > 1000
  · rw [if_pos c3] at H
    have c3b0 : decide (1000 < (l0.length : Int)) = true := decide_eq_true c3
    have c3b1 : decide (1000 < l0.length) = true := decide_eq_true (by omega)
    clear c3
    obtain rfl := Option.some.inj H
    go_enter Tryd.func3, Tryd.ntmps3
    go_wp2
    go_ret
    exact ⟨by first | rfl | (simp [errW_none, errW_some] <;> rfl) | (simp [*, errW_none, errW_some] <;> rfl), by repeat (first | (with_reducible first | exact HB.out | apply below_alloc | apply pw_below_drewN | apply below_drew1) | exact HB.out)⟩
  · rw [if_neg c3] at H
    have c3b0 : decide (1000 < (l0.length : Int)) = false := decide_eq_false c3
    have c3b1 : decide (1000 < l0.length) = false := decide_eq_false (by omega)
    clear c3
    replace H := Option.bind_eq_some_iff.mp H
    obtain ⟨⟨t204, t205⟩, A40, H⟩ := H
    replace H : ((spec_LeadOfRing.f k l0).bind fun bt206 => ((impl_PeriodOfRing.f k l0).bind fun bt208 => (if (t205 != bt206.2) = true then (laws_FnRingAgain.j0 k l0 a1 t204 t205 bt208.1 true) else (if t204 = bt206.1 then (laws_FnRingAgain.j0 k l0 a1 t204 t205 bt208.1 (bt208.2 != t205)) else (laws_FnRingAgain.j0 k l0 a1 t204 t205 bt208.1 true))))) = some r := H
    have A4 := Aside0.mk A40
    clear A40
    replace H := Option.bind_eq_some_iff.mp H
    obtain ⟨⟨t206, t207⟩, A50, H⟩ := H
    replace H : ((impl_PeriodOfRing.f k l0).bind fun bt208 => (if (t205 != t207) = true then (laws_FnRingAgain.j0 k l0 a1 t204 t205 bt208.1 true) else (if t204 = t206 then (laws_FnRingAgain.j0 k l0 a1 t204 t205 bt208.1 (bt208.2 != t205)) else (laws_FnRingAgain.j0 k l0 a1 t204 t205 bt208.1 true)))) = some r := H
    have A5 := Aside0.mk A50
    clear A50
    replace H := Option.bind_eq_some_iff.mp H
    obtain ⟨⟨t208, t209⟩, A60, H⟩ := H
    replace H : (if (t205 != t207) = true then (laws_FnRingAgain.j0 k l0 a1 t204 t205 t208 true) else (if t204 = t206 then (laws_FnRingAgain.j0 k l0 a1 t204 t205 t208 (t209 != t205)) else (laws_FnRingAgain.j0 k l0 a1 t204 t205 t208 true))) = some r := H
    have A6 := Aside0.mk A60
    clear A60
    have HC7 := Aside0.mk H
    clear H
    go_enter Tryd.func3, Tryd.ntmps3
    go_upto_region 6 with (first | ((with_reducible refine gate_callee (f := 11) rfl ?_); refine goesL_ (some 25) rfl rfl Tryd.func11 (by kernel_rfl) rfl #[.slice A0 l0.length c0] rfl (by (try simp only [List.map_toArray, List.map_cons, List.map_nil]); first | done | rfl | (simp only [List.length_drop, List.length_take]; rfl)) ?_; (with_reducible refine (impl_LeadOfRing.calls k _ _ l0 t204 t205 _ ?side1 ?side2 ?side3 A4.out).mono ?_); (case side1 => repeat (first | exact HR0.out | (with_reducible refine Kd.C_alloc ?_ _) | (with_reducible refine Kd.C_drewN ?_ _) | (with_reducible refine Kd.C_drew ?_))); (case side2 => exact HC0.out); (case side3 => exact Gl.below HG.out (by repeat (first | (with_reducible first | exact HB.out | apply below_alloc | apply pw_below_drewN | apply below_drew1) | exact HB.out))); rintro e w8 ⟨rfl, hb⟩; refine ⟨_, rfl, ?_⟩; have n0_ := Aside0.mk (below_step (by repeat (first | (with_reducible first | exact HB.out | apply below_alloc | apply pw_below_drewN | apply below_drew1) | exact HB.out)) hb); clear HB; have HB := n0_; clear n0_; (try clear hb); (try clear hb2); (try clear hk); (try clear hi)) | ((with_reducible refine gate_callee (f := 12) rfl ?_); refine goesL_ (some 30) rfl rfl Tryd.func12 (by kernel_rfl) rfl #[.slice A0 l0.length c0] rfl (by (try simp only [List.map_toArray, List.map_cons, List.map_nil]); first | done | rfl | (simp only [List.length_drop, List.length_take]; rfl)) ?_; (with_reducible refine (spec_LeadOfRing.calls k _ _ l0 t206 t207 _ ?side1 ?side2 A5.out).mono ?_); (case side1 => repeat (first | exact (Kd.C_below HR0.out HB.out) | (with_reducible refine Kd.C_alloc ?_ _) | (with_reducible refine Kd.C_drewN ?_ _) | (with_reducible refine Kd.C_drew ?_))); (case side2 => exact HC0.out); rintro e w9 ⟨rfl, hb⟩; refine ⟨_, rfl, ?_⟩; have n0_ := Aside0.mk (below_step (by repeat (first | (with_reducible first | exact HB.out | apply below_alloc | apply pw_below_drewN | apply below_drew1) | exact HB.out)) hb); clear HB; have HB := n0_; clear n0_; (try clear hb); (try clear hb2); (try clear hk); (try clear hi)) | ((with_reducible refine gate_callee (f := 13) rfl ?_); refine goesL_ (some 35) rfl rfl Tryd.func13 (by kernel_rfl) rfl #[.slice A0 l0.length c0] rfl (by (try simp only [List.map_toArray, List.map_cons, List.map_nil]); first | done | rfl | (simp only [List.length_drop, List.length_take]; rfl)) ?_; (with_reducible refine (impl_PeriodOfRing.calls k _ _ l0 t208 t209 _ ?side1 ?side2 ?side3 A6.out).mono ?_); (case side1 => repeat (first | exact (Kd.C_below HR0.out HB.out) | (with_reducible refine Kd.C_alloc ?_ _) | (with_reducible refine Kd.C_drewN ?_ _) | (with_reducible refine Kd.C_drew ?_))); (case side2 => exact HC0.out); (case side3 => exact Gl.below HG.out (by repeat (first | (with_reducible first | exact HB.out | apply below_alloc | apply pw_below_drewN | apply below_drew1) | exact HB.out))); rintro e w10 ⟨rfl, hb⟩; refine ⟨_, rfl, ?_⟩; have n0_ := Aside0.mk (below_step (by repeat (first | (with_reducible first | exact HB.out | apply below_alloc | apply pw_below_drewN | apply below_drew1) | exact HB.out)) hb); clear HB; have HB := n0_; clear n0_; (try clear hb); (try clear hb2); (try clear hk); (try clear hi)))
    (try simp only [Act.put, List.setIfInBounds_toArray, List.set_cons_zero, List.set_cons_succ])
    go_cut [50] (fun v50 wc => ∃ (kq : Nat) (x50_6 : Bool), v50 = .bool x50_6 ∧ Aside0 (laws_FnRingAgain.j0 kq l0 a1 t204 t205 t208 x50_6 = some r) ∧ Aside0 (kq ≤ k) ∧ Aside0 (Below w.heap.size w wc))
    case first =>
      have H := HC7.out
      clear HC7
      by_cases c11 : (t205 != t207) = true
      · rw [if_pos c11] at H
        have c11b0 : (t205 != t207) = true := c11
        (try (have c11b1 : decide (t205 = t207) = false := by simpa using c11))
        (try (have c11b2 : (t205 == t207) = false := by simpa using c11))
        (try (have c11b3 : ¬ (t205 = t207) := by simpa using c11))
        clear c11
        (first | rw [c11b0] | (simp only [i64_w, i32_w]; rw [c11b0]) | skip)
        have H' := Aside0.mk H
        clear H
        go_wp2
        go_meet
        case rel => exact ⟨_, (true), (by first | rfl | (simp; done) | (simp [*]; done)), H', ⟨by first | omega | exact Nat.le_refl _⟩, ⟨by repeat (first | (with_reducible first | exact HB.out | apply below_alloc | apply pw_below_drewN | apply below_drew1) | exact HB.out)⟩⟩
      · rw [if_neg c11] at H
        have c11b0 : (t205 != t207) = false := by simpa using c11
        (try (have c11b1 : decide (t205 = t207) = true := by simpa using c11))
        (try (have c11b2 : (t205 == t207) = true := by simpa using c11))
        clear c11
        (first | rw [c11b0] | (simp only [i64_w, i32_w]; rw [c11b0]) | skip)
        by_cases c12 : t204 = t206
        · rw [if_pos c12] at H
          have c12b0 : (t204 == t206) = true := beq_iff_eq.mpr c12
          have c12b1 : (t204 != t206) = false := bne_eq_false_iff_eq.mpr c12
          clear c12
          have H' := Aside0.mk H
          clear H
          go_wp2
          go_meet
          case rel => exact ⟨_, ((t209 != t205)), (by first | rfl | (simp; done) | (simp [*]; done)), H', ⟨by first | omega | exact Nat.le_refl _⟩, ⟨by repeat (first | (with_reducible first | exact HB.out | apply below_alloc | apply pw_below_drewN | apply below_drew1) | exact HB.out)⟩⟩
        · rw [if_neg c12] at H
          have c12b0 : (t204 == t206) = false := beq_eq_false_iff_ne.mpr c12
          have c12b1 : (t204 != t206) = true := bne_iff_ne.mpr c12
          have H' := Aside0.mk H
          clear H
          go_wp2
          go_meet
          case rel => exact ⟨_, (true), (by first | rfl | (simp; done) | (simp [*]; done)), H', ⟨by first | omega | exact Nat.le_refl _⟩, ⟨by repeat (first | (with_reducible first | exact HB.out | apply below_alloc | apply pw_below_drewN | apply below_drew1) | exact HB.out)⟩⟩
    case rest =>
      clear HC7
      try clear c1
      try clear p2
      try clear c3
      try clear c3b0
      try clear c3b1
      try clear c11
      try clear c11b0
      try clear c11b1
      try clear c11b2
      try clear c12
      try clear c12b0
      try clear c12b1
      obtain ⟨kq, x50_6, rfl, HA, HJ6, HB⟩ := hcut
      cases kq with
      | zero => exact absurd HA.out (by simp [laws_FnRingAgain.j0])
      | succ kj6 =>
        have H := HA.out
        clear HA
        simp only [laws_FnRingAgain.j0] at H
        by_cases c13 : x50_6 = true
        · subst c13
          have H1 : (some false) = some r := by rw [if_pos rfl] at H; exact H
          clear H
          have H := H1
          clear H1
          obtain rfl := Option.some.inj H
          go_wp2
          go_ret
          exact ⟨by first | rfl | (simp [errW_none, errW_some] <;> rfl) | (simp [*, errW_none, errW_some] <;> rfl), by repeat (first | (with_reducible first | exact HB.out | apply below_alloc | apply pw_below_drewN | apply below_drew1) | exact HB.out)⟩
        · replace c13 := Bool.eq_false_iff.mpr c13
          subst c13
          have H1 : (if t205 = true then (if a1 < 0 then (laws_FnRingAgain.j1 kj6 l0 a1 t204 t208 true) else (laws_FnRingAgain.j1 kj6 l0 a1 t204 t208 (decide (a1 > 1000000)))) else (laws_FnRingAgain.j1 kj6 l0 a1 t204 t208 true)) = some r := by rw [if_neg (show ¬ (false = true) by decide)] at H; exact H
          clear H
          have H := H1
          clear H1
          have HC14 := Aside0.mk H
          clear H
          go_upto_region 8 with (fail)
          go_cut [60] (fun v60 wc => ∃ (kq : Nat) (x60_13 : Bool), v60 = .bool x60_13 ∧ Aside0 (laws_FnRingAgain.j1 kq l0 a1 t204 t208 x60_13 = some r) ∧ Aside0 (kq ≤ kj6) ∧ Aside0 (Below w.heap.size w wc))
          case first =>
            have H := HC14.out
            clear HC14
            by_cases c15 : t205 = true
            · subst c15
              have H1 : (if a1 < 0 then (laws_FnRingAgain.j1 kj6 l0 a1 t204 t208 true) else (laws_FnRingAgain.j1 kj6 l0 a1 t204 t208 (decide (a1 > 1000000)))) = some r := by rw [if_pos rfl] at H; exact H
              clear H
              have H := H1
              clear H1
              by_cases c16 : a1 < 0
              · rw [if_pos c16] at H
                have c16b0 : decide (a1 < 0) = true := decide_eq_true c16
                clear c16
                (first | rw [c16b0] | (simp only [i64_w, i32_w]; rw [c16b0]) | skip)
                have H' := Aside0.mk H
                clear H
                go_wp2
                go_meet
                case rel => exact ⟨_, (true), (by first | rfl | (simp; done) | (simp [*]; done)), H', ⟨by have := HJ6.out; first | omega | exact Nat.le_refl _⟩, ⟨by repeat (first | (with_reducible first | exact HB.out | apply below_alloc | apply pw_below_drewN | apply below_drew1) | exact HB.out)⟩⟩
              · rw [if_neg c16] at H
                have c16b0 : decide (a1 < 0) = false := decide_eq_false c16
                clear c16
                (first | rw [c16b0] | (simp only [i64_w, i32_w]; rw [c16b0]) | skip)
                have H' := Aside0.mk H
                clear H
                go_wp2
                go_meet
                case rel => exact ⟨_, (decide (a1 > 1000000)), (by first | rfl | (simp; done) | (simp [*]; done)), H', ⟨by have := HJ6.out; first | omega | exact Nat.le_refl _⟩, ⟨by repeat (first | (with_reducible first | exact HB.out | apply below_alloc | apply pw_below_drewN | apply below_drew1) | exact HB.out)⟩⟩
            · replace c15 := Bool.eq_false_iff.mpr c15
              subst c15
              have H1 : (laws_FnRingAgain.j1 kj6 l0 a1 t204 t208 true) = some r := by rw [if_neg (show ¬ (false = true) by decide)] at H; exact H
              clear H
              have H := H1
              clear H1
              have H' := Aside0.mk H
              clear H
              go_wp2
              go_meet
              case rel => exact ⟨_, (true), (by first | rfl | (simp; done) | (simp [*]; done)), H', ⟨by have := HJ6.out; first | omega | exact Nat.le_refl _⟩, ⟨by repeat (first | (with_reducible first | exact HB.out | apply below_alloc | apply pw_below_drewN | apply below_drew1) | exact HB.out)⟩⟩
          case rest =>
            clear HC14
            try clear c1
            try clear p2
            try clear c3
            try clear c3b0
            try clear c3b1
            try clear c11
            try clear c11b0
            try clear c11b1
            try clear c11b2
            try clear c12
            try clear c12b0
            try clear c12b1
            try clear c13
            try clear c15
            try clear c16
            try clear c16b0
            try clear p2
            obtain ⟨kq, x60_13, rfl, HA, HJ13, HB⟩ := hcut
            cases kq with
            | zero => exact absurd HA.out (by simp [laws_FnRingAgain.j1])
            | succ kj13 =>
              have H := HA.out
              clear HA
              simp only [laws_FnRingAgain.j1] at H
              by_cases c17 : x60_13 = true
              · subst c17
                have H1 : (some true) = some r := by rw [if_pos rfl] at H; exact H
                clear H
                have H := H1
                clear H1
                obtain rfl := Option.some.inj H
                go_wp2
                go_ret
                exact ⟨by first | rfl | (simp [errW_none, errW_some] <;> rfl) | (simp [*, errW_none, errW_some] <;> rfl), by repeat (first | (with_reducible first | exact HB.out | apply below_alloc | apply pw_below_drewN | apply below_drew1) | exact HB.out)⟩
              · replace c17 := Bool.eq_false_iff.mpr c17
                subst c17
                have H1 : ((impl_RingAfter.f kj13 l0 (wrap64 (t204 + a1))).bind fun bt210 => ((impl_RingAfter.f kj13 l0 (wrap64 ((wrap64 (t204 + a1)) + t208))).bind fun bt214 => (if (mx t208 1) = 0 then (none) else ((impl_RingAfter.f kj13 l0 (wrap64 ((wrap64 ((wrap64 (t204 + a1)) + 1)) + (Int.tmod a1 (mx t208 1))))).bind fun bt218 => (if bt210.2 = true then (if bt214.2 = true then (laws_FnRingAgain.j2 kj13 a1 t208 bt210.1 bt214.1 bt218.1 (!bt218.2)) else (laws_FnRingAgain.j2 kj13 a1 t208 bt210.1 bt214.1 bt218.1 true)) else (laws_FnRingAgain.j2 kj13 a1 t208 bt210.1 bt214.1 bt218.1 true)))))) = some r := by rw [if_neg (show ¬ (false = true) by decide)] at H; exact H
                clear H
                have H := H1
                clear H1
                replace H := Option.bind_eq_some_iff.mp H
                obtain ⟨⟨t210, t211⟩, A180, H⟩ := H
                replace H : ((impl_RingAfter.f kj13 l0 (wrap64 ((wrap64 (t204 + a1)) + t208))).bind fun bt214 => (if (mx t208 1) = 0 then (none) else ((impl_RingAfter.f kj13 l0 (wrap64 ((wrap64 ((wrap64 (t204 + a1)) + 1)) + (Int.tmod a1 (mx t208 1))))).bind fun bt218 => (if t211 = true then (if bt214.2 = true then (laws_FnRingAgain.j2 kj13 a1 t208 t210 bt214.1 bt218.1 (!bt218.2)) else (laws_FnRingAgain.j2 kj13 a1 t208 t210 bt214.1 bt218.1 true)) else (laws_FnRingAgain.j2 kj13 a1 t208 t210 bt214.1 bt218.1 true))))) = some r := H
                have A18 := Aside0.mk A180
                clear A180
                replace H := Option.bind_eq_some_iff.mp H
                obtain ⟨⟨t214, t215⟩, A190, H⟩ := H
                replace H : (if (mx t208 1) = 0 then (none) else ((impl_RingAfter.f kj13 l0 (wrap64 ((wrap64 ((wrap64 (t204 + a1)) + 1)) + (Int.tmod a1 (mx t208 1))))).bind fun bt218 => (if t211 = true then (if t215 = true then (laws_FnRingAgain.j2 kj13 a1 t208 t210 t214 bt218.1 (!bt218.2)) else (laws_FnRingAgain.j2 kj13 a1 t208 t210 t214 bt218.1 true)) else (laws_FnRingAgain.j2 kj13 a1 t208 t210 t214 bt218.1 true)))) = some r := H
                have A19 := Aside0.mk A190
                clear A190
                obtain ⟨ji20, hji20⟩ : ∃ j_ : Int, (mx t208 1) = j_ := ⟨_, rfl⟩
                replace H : (if (ji20) = 0 then (none) else ((impl_RingAfter.f kj13 l0 (wrap64 ((wrap64 ((wrap64 (t204 + a1)) + 1)) + (Int.tmod a1 (ji20))))).bind fun bt218 => (if t211 = true then (if t215 = true then (laws_FnRingAgain.j2 kj13 a1 t208 t210 t214 bt218.1 (!bt218.2)) else (laws_FnRingAgain.j2 kj13 a1 t208 t210 t214 bt218.1 true)) else (laws_FnRingAgain.j2 kj13 a1 t208 t210 t214 bt218.1 true)))) = some r := by first | (rw [hji20] at H; exact H) | (simp only [hji20] at H ⊢; exact H)
                (try rw [hji20] at A18)
                (try rw [hji20] at A19)
                have hji20_ : (if t208 < 1 then 1 else t208) = ji20 := hji20
                by_cases c21 : (ji20) = 0
                · rw [if_pos c21] at H
                  exact absurd H (by simp)
                · rw [if_neg c21] at H
                  have c21b0 : ((ji20) == 0) = false := beq_eq_false_iff_ne.mpr c21
                  have c21b1 : ((ji20) != 0) = true := bne_iff_ne.mpr c21
                  replace H := Option.bind_eq_some_iff.mp H
                  obtain ⟨⟨t218, t219⟩, A220, H⟩ := H
                  replace H : (if t211 = true then (if t215 = true then (laws_FnRingAgain.j2 kj13 a1 t208 t210 t214 t218 (!t219)) else (laws_FnRingAgain.j2 kj13 a1 t208 t210 t214 t218 true)) else (laws_FnRingAgain.j2 kj13 a1 t208 t210 t214 t218 true)) = some r := H
                  have A22 := Aside0.mk A220
                  clear A220
                  have HC23 := Aside0.mk H
                  clear H
                  go_upto_region 13 with (first | ((with_reducible refine gate_callee (f := 14) rfl ?_); refine goesL_ (some 66) rfl rfl Tryd.func14 (by kernel_rfl) rfl #[.slice A0 l0.length c0, .int .i64 (wrap64 (t204 + a1))] rfl (by (try simp only [List.map_toArray, List.map_cons, List.map_nil]); first | done | rfl | (simp only [List.length_drop, List.length_take]; rfl)) ?_; (with_reducible refine (impl_RingAfter.calls kj13 _ _ l0 (wrap64 (t204 + a1)) t210 t211 _ ?side1 ?side2 ?side3 A18.out).mono ?_); (case side1 => repeat (first | exact (Kd.C_below HR0.out HB.out) | (with_reducible refine Kd.C_alloc ?_ _) | (with_reducible refine Kd.C_drewN ?_ _) | (with_reducible refine Kd.C_drew ?_))); (case side2 => exact HC0.out); (case side3 => exact Gl.below HG.out (by repeat (first | (with_reducible first | exact HB.out | apply below_alloc | apply pw_below_drewN | apply below_drew1) | exact HB.out))); rintro e w24 ⟨v212, rfl, ho0, hb⟩; refine ⟨_, rfl, ?_⟩; have n0_ := Aside0.mk (Kd.R_lower ho0 (below_size (by repeat (first | (with_reducible first | exact HB.out | apply below_alloc | apply pw_below_drewN | apply below_drew1) | exact HB.out)))); have n1_ := Aside0.mk (below_step (by repeat (first | (with_reducible first | exact HB.out | apply below_alloc | apply pw_below_drewN | apply below_drew1) | exact HB.out)) hb); clear HB; have HO213 := n0_; have HB := n1_; clear n0_ n1_; (try clear hb); (try clear hb2); (try clear hk); (try clear hi); (try clear ho0)) | ((with_reducible refine gate_callee (f := 14) rfl ?_); refine goesL_ (some 76) rfl rfl Tryd.func14 (by kernel_rfl) rfl #[.slice A0 l0.length c0, .int .i64 (wrap64 ((wrap64 (t204 + a1)) + t208))] rfl (by (try simp only [List.map_toArray, List.map_cons, List.map_nil]); first | done | rfl | (simp only [List.length_drop, List.length_take]; rfl)) ?_; (with_reducible refine (impl_RingAfter.calls kj13 _ _ l0 (wrap64 ((wrap64 (t204 + a1)) + t208)) t214 t215 _ ?side1 ?side2 ?side3 A19.out).mono ?_); (case side1 => repeat (first | exact (Kd.C_below HR0.out HB.out) | (with_reducible refine Kd.C_alloc ?_ _) | (with_reducible refine Kd.C_drewN ?_ _) | (with_reducible refine Kd.C_drew ?_))); (case side2 => exact HC0.out); (case side3 => exact Gl.below HG.out (by repeat (first | (with_reducible first | exact HB.out | apply below_alloc | apply pw_below_drewN | apply below_drew1) | exact HB.out))); rintro e w25 ⟨v216, rfl, ho0, hb⟩; refine ⟨_, rfl, ?_⟩; have n0_ := Aside0.mk (Kd.R_elder' (by (with_reducible repeat (first | apply Kd.R_alloc | apply Kd.R_drewN | apply Kd.R_drew)); exact HO213.out) (Kd.R_base ho0) hb); have n1_ := Aside0.mk (Kd.R_lower (Kd.R_new' ho0 (Kd.R_lt (by (with_reducible repeat (first | apply Kd.R_alloc | apply Kd.R_drewN | apply Kd.R_drew)); exact HO213.out))) (below_size (by repeat (first | (with_reducible first | exact HB.out | apply below_alloc | apply pw_below_drewN | apply below_drew1) | exact HB.out)))); have n2_ := Aside0.mk (below_step (by repeat (first | (with_reducible first | exact HB.out | apply below_alloc | apply pw_below_drewN | apply below_drew1) | exact HB.out)) hb); clear HO213; clear HB; have HO213 := n0_; have HO217 := n1_; have HB := n2_; clear n0_ n1_ n2_; (try clear hb); (try clear hb2); (try clear hk); (try clear hi); (try clear ho0)) | ((with_reducible refine gate_callee (f := 14) rfl ?_); refine goesL_ (some 90) rfl rfl Tryd.func14 (by kernel_rfl) rfl #[.slice A0 l0.length c0, .int .i64 (wrap64 ((wrap64 ((wrap64 (t204 + a1)) + 1)) + (Int.tmod a1 (ji20))))] rfl (by (try simp only [List.map_toArray, List.map_cons, List.map_nil]); first | done | (simp only [hji20]; rfl) | rfl | (simp only [List.length_drop, List.length_take]; rfl)) ?_; (with_reducible refine (impl_RingAfter.calls kj13 _ _ l0 (wrap64 ((wrap64 ((wrap64 (t204 + a1)) + 1)) + (Int.tmod a1 (ji20)))) t218 t219 _ ?side1 ?side2 ?side3 A22.out).mono ?_); (case side1 => repeat (first | exact (Kd.C_below HR0.out HB.out) | (with_reducible refine Kd.C_alloc ?_ _) | (with_reducible refine Kd.C_drewN ?_ _) | (with_reducible refine Kd.C_drew ?_))); (case side2 => exact HC0.out); (case side3 => exact Gl.below HG.out (by repeat (first | (with_reducible first | exact HB.out | apply below_alloc | apply pw_below_drewN | apply below_drew1) | exact HB.out))); rintro e w26 ⟨v220, rfl, ho0, hb⟩; refine ⟨_, rfl, ?_⟩; have n0_ := Aside0.mk (Kd.R_elder' (by (with_reducible repeat (first | apply Kd.R_alloc | apply Kd.R_drewN | apply Kd.R_drew)); exact HO213.out) (Kd.R_base ho0) hb); have n1_ := Aside0.mk (Kd.R_elder' (by (with_reducible repeat (first | apply Kd.R_alloc | apply Kd.R_drewN | apply Kd.R_drew)); exact HO217.out) (Kd.R_base ho0) hb); have n2_ := Aside0.mk (Kd.R_lower (Kd.R_new' (Kd.R_new' ho0 (Kd.R_lt (by (with_reducible repeat (first | apply Kd.R_alloc | apply Kd.R_drewN | apply Kd.R_drew)); exact HO213.out))) (Kd.R_lt (by (with_reducible repeat (first | apply Kd.R_alloc | apply Kd.R_drewN | apply Kd.R_drew)); exact HO217.out))) (below_size (by repeat (first | (with_reducible first | exact HB.out | apply below_alloc | apply pw_below_drewN | apply below_drew1) | exact HB.out)))); have n3_ := Aside0.mk (below_step (by repeat (first | (with_reducible first | exact HB.out | apply below_alloc | apply pw_below_drewN | apply below_drew1) | exact HB.out)) hb); clear HO213; clear HO217; clear HB; have HO213 := n0_; have HO217 := n1_; have HO221 := n2_; have HB := n3_; clear n0_ n1_ n2_ n3_; (try clear hb); (try clear hb2); (try clear hk); (try clear hi); (try clear ho0)))
                  (try simp only [Act.put, List.setIfInBounds_toArray, List.set_cons_zero, List.set_cons_succ])
                  go_cut [102] (fun v102 wc => ∃ (kq : Nat) (x102_22 : Bool), v102 = .bool x102_22 ∧ Aside0 (laws_FnRingAgain.j2 kq a1 t208 t210 t214 t218 x102_22 = some r) ∧ Aside0 (kq ≤ kj13) ∧ Aside0 (Kd.R (Kd.int .i64) 3 wc w.heap.size (fun k_ => some k_ ≠ (v216 : Value).ownBlock ∧ some k_ ≠ (v220 : Value).ownBlock) v212 t210) ∧ Aside0 (Kd.R (Kd.int .i64) 3 wc w.heap.size (fun k_ => some k_ ≠ (v212 : Value).ownBlock ∧ some k_ ≠ (v220 : Value).ownBlock) v216 t214) ∧ Aside0 (Kd.R (Kd.int .i64) 3 wc w.heap.size (fun k_ => some k_ ≠ (v212 : Value).ownBlock ∧ some k_ ≠ (v216 : Value).ownBlock) v220 t218) ∧ Aside0 (Below w.heap.size w wc))
                  case first =>
                    have H := HC23.out
                    clear HC23
                    by_cases c27 : t211 = true
                    · subst c27
                      have H1 : (if t215 = true then (laws_FnRingAgain.j2 kj13 a1 t208 t210 t214 t218 (!t219)) else (laws_FnRingAgain.j2 kj13 a1 t208 t210 t214 t218 true)) = some r := by rw [if_pos rfl] at H; exact H
                      clear H
                      have H := H1
                      clear H1
                      by_cases c28 : t215 = true
                      · subst c28
                        have H1 : (laws_FnRingAgain.j2 kj13 a1 t208 t210 t214 t218 (!t219)) = some r := by rw [if_pos rfl] at H; exact H
                        clear H
                        have H := H1
                        clear H1
                        have H' := Aside0.mk H
                        clear H
                        go_wp2
                        go_meet
                        case rel => exact ⟨_, (!t219), (by first | rfl | (simp; done) | (simp [*]; done)), H', ⟨by have := HJ6.out; have := HJ13.out; first | omega | exact Nat.le_refl _⟩, ⟨by (with_reducible repeat (first | apply Kd.R_alloc | apply Kd.R_drewN | apply Kd.R_drew)); exact Kd.R_mono HO213.out (fun _ hk => ⟨hk.1.2, hk.2⟩)⟩, ⟨by (with_reducible repeat (first | apply Kd.R_alloc | apply Kd.R_drewN | apply Kd.R_drew)); exact Kd.R_mono HO217.out (fun _ hk => ⟨hk.1.2, hk.2⟩)⟩, ⟨by (with_reducible repeat (first | apply Kd.R_alloc | apply Kd.R_drewN | apply Kd.R_drew)); exact Kd.R_mono HO221.out (fun _ hk => ⟨hk.1.2, hk.2⟩)⟩, ⟨by repeat (first | (with_reducible first | exact HB.out | apply below_alloc | apply pw_below_drewN | apply below_drew1) | exact HB.out)⟩⟩
                      · replace c28 := Bool.eq_false_iff.mpr c28
                        subst c28
                        have H1 : (laws_FnRingAgain.j2 kj13 a1 t208 t210 t214 t218 true) = some r := by rw [if_neg (show ¬ (false = true) by decide)] at H; exact H
                        clear H
                        have H := H1
                        clear H1
                        have H' := Aside0.mk H
                        clear H
                        go_wp2
                        go_meet
                        case rel => exact ⟨_, (true), (by first | rfl | (simp; done) | (simp [*]; done)), H', ⟨by have := HJ6.out; have := HJ13.out; first | omega | exact Nat.le_refl _⟩, ⟨by (with_reducible repeat (first | apply Kd.R_alloc | apply Kd.R_drewN | apply Kd.R_drew)); exact Kd.R_mono HO213.out (fun _ hk => ⟨hk.1.2, hk.2⟩)⟩, ⟨by (with_reducible repeat (first | apply Kd.R_alloc | apply Kd.R_drewN | apply Kd.R_drew)); exact Kd.R_mono HO217.out (fun _ hk => ⟨hk.1.2, hk.2⟩)⟩, ⟨by (with_reducible repeat (first | apply Kd.R_alloc | apply Kd.R_drewN | apply Kd.R_drew)); exact Kd.R_mono HO221.out (fun _ hk => ⟨hk.1.2, hk.2⟩)⟩, ⟨by repeat (first | (with_reducible first | exact HB.out | apply below_alloc | apply pw_below_drewN | apply below_drew1) | exact HB.out)⟩⟩
                    · replace c27 := Bool.eq_false_iff.mpr c27
                      subst c27
                      have H1 : (laws_FnRingAgain.j2 kj13 a1 t208 t210 t214 t218 true) = some r := by rw [if_neg (show ¬ (false = true) by decide)] at H; exact H
                      clear H
                      have H := H1
                      clear H1
                      have H' := Aside0.mk H
                      clear H
                      go_wp2
                      go_meet
                      case rel => exact ⟨_, (true), (by first | rfl | (simp; done) | (simp [*]; done)), H', ⟨by have := HJ6.out; have := HJ13.out; first | omega | exact Nat.le_refl _⟩, ⟨by (with_reducible repeat (first | apply Kd.R_alloc | apply Kd.R_drewN | apply Kd.R_drew)); exact Kd.R_mono HO213.out (fun _ hk => ⟨hk.1.2, hk.2⟩)⟩, ⟨by (with_reducible repeat (first | apply Kd.R_alloc | apply Kd.R_drewN | apply Kd.R_drew)); exact Kd.R_mono HO217.out (fun _ hk => ⟨hk.1.2, hk.2⟩)⟩, ⟨by (with_reducible repeat (first | apply Kd.R_alloc | apply Kd.R_drewN | apply Kd.R_drew)); exact Kd.R_mono HO221.out (fun _ hk => ⟨hk.1.2, hk.2⟩)⟩, ⟨by repeat (first | (with_reducible first | exact HB.out | apply below_alloc | apply pw_below_drewN | apply below_drew1) | exact HB.out)⟩⟩
                  case rest =>
                    clear HC23
                    try clear c1
                    try clear c2
                    try clear p2
                    try clear c3
                    try clear c3b0
                    try clear c3b1
                    try clear p6
                    try clear c11
                    try clear c11b0
                    try clear c11b1
                    try clear c11b2
                    try clear c12
                    try clear c12b0
                    try clear c12b1
                    try clear c13
                    try clear c14
                    try clear c15
                    try clear c16
                    try clear c16b0
                    try clear c17
                    try clear c21
                    try clear c21b0
                    try clear c21b1
                    try clear c27
                    try clear c28
                    try clear p2
                    obtain ⟨kq, x102_22, rfl, HA, HJ22, HO_11, HO_13, HO_15, HB⟩ := hcut
                    cases kq with
                    | zero => exact absurd HA.out (by simp [laws_FnRingAgain.j2])
                    | succ kj22 =>
                      have H := HA.out
                      clear HA
                      simp only [laws_FnRingAgain.j2] at H
                      by_cases c29 : x102_22 = true
                      · subst c29
                        have H1 : (some false) = some r := by rw [if_pos rfl] at H; exact H
                        clear H
                        have H := H1
                        clear H1
                        obtain rfl := Option.some.inj H
                        go_wp2
                        go_ret
                        exact ⟨by first | rfl | (simp [errW_none, errW_some] <;> rfl) | (simp only [← hji20]; first | rfl | (simp [errW_none, errW_some] <;> rfl)) | (simp [*, errW_none, errW_some] <;> rfl), by repeat (first | (with_reducible first | exact HB.out | apply below_alloc | apply pw_below_drewN | apply below_drew1) | exact HB.out)⟩
                      · replace c29 := Bool.eq_false_iff.mpr c29
                        subst c29
                        have H1 : (laws_FnRingAgain.l0 kj22 a1 t208 t214 t218 true t210 (t210.length : Int) 0) = some r := by rw [if_neg (show ¬ (false = true) by decide)] at H; exact H
                        clear H
                        have H := H1
                        clear H1
                        have H' := Aside0.mk H
                        clear H
                        obtain ⟨Ao30, co30, eo30⟩ := Kd.R_slice HO_11.out
                        subst eo30
                        go_wp2
                        go_loopg [17, 105] kj22 (fun kq v17 v105 w' => ∃ (x17_4 : Bool) (x105_4 : Int), v17 = .bool x17_4 ∧ v105 = .int .i64 x105_4 ∧ Aside0 (laws_FnRingAgain.l0 kq a1 t208 t214 t218 x17_4 t210 (t210.length : Int) x105_4 = some r) ∧ Aside0 (kq ≤ kj22) ∧ Aside0 (Kd.R (Kd.int .i64) 3 w' w.heap.size (fun k_ => some k_ ≠ (v220 : Value).ownBlock ∧ some k_ ≠ ((.slice Ao30 t210.length co30) : Value).ownBlock) v216 t214) ∧ Aside0 (Kd.R (Kd.int .i64) 3 w' w.heap.size (fun k_ => some k_ ≠ (v216 : Value).ownBlock ∧ some k_ ≠ ((.slice Ao30 t210.length co30) : Value).ownBlock) v220 t218) ∧ Aside0 (Kd.R (Kd.int .i64) 3 w' w.heap.size (fun k_ => some k_ ≠ (v216 : Value).ownBlock ∧ some k_ ≠ (v220 : Value).ownBlock) (.slice Ao30 t210.length co30) t210) ∧ Aside0 (Below w.heap.size w w'))
                        case atStart => exact ⟨(true), (0), (by first | rfl | (simp; done) | (simp [*]; done)), (by first | rfl | (simp; done) | (simp [*]; done)), H', ⟨Nat.le_refl _⟩, ⟨by (with_reducible repeat (first | apply Kd.R_alloc | apply Kd.R_drewN | apply Kd.R_drew)); exact Kd.R_mono HO_13.out (fun _ hk => ⟨hk.2, hk.1⟩)⟩, ⟨by (with_reducible repeat (first | apply Kd.R_alloc | apply Kd.R_drewN | apply Kd.R_drew)); exact Kd.R_mono HO_15.out (fun _ hk => ⟨hk.2, hk.1⟩)⟩, ⟨by (with_reducible repeat (first | apply Kd.R_alloc | apply Kd.R_drewN | apply Kd.R_drew)); exact HO_11.out⟩, ⟨by repeat (first | (with_reducible first | exact HB.out | apply below_alloc | apply pw_below_drewN | apply below_drew1) | exact HB.out)⟩⟩
                        case round =>
                          clear H'
                          try clear c1
                          try clear c2
                          try clear p2
                          try clear c3
                          try clear c3b0
                          try clear c3b1
                          try clear p6
                          try clear c11
                          try clear c11b0
                          try clear c11b1
                          try clear c11b2
                          try clear c12
                          try clear c12b0
                          try clear c12b1
                          try clear c13
                          try clear c14
                          try clear c15
                          try clear c16
                          try clear c16b0
                          try clear c17
                          try clear c21
                          try clear c21b0
                          try clear c21b1
                          try clear c27
                          try clear c28
                          try clear c29
                          try clear p2
                          try clear p6
                          obtain ⟨x17_4, x105_4, rfl, rfl, HA, HK4, HO_13, HO_15, HO_103, HB⟩ := hrel
                          cases gk with
                          | zero => exact absurd HA.out (by simp [laws_FnRingAgain.l0])
                          | succ k4 =>
                            have H := HA.out
                            clear HA
                            simp only [laws_FnRingAgain.l0] at H
                            by_cases c31 : x105_4 < (t210.length : Int)
                            · rw [if_pos c31] at H
                              have c31b0 : decide (x105_4 < (t210.length : Int)) = true := decide_eq_true c31
                              clear c31
                              by_cases c32 : 0 ≤ x105_4
                              · rw [if_pos c32] at H
                                have c32b0 : decide (0 ≤ x105_4) = true := decide_eq_true c32
                                clear c32
                                by_cases c33 : x105_4 < (t210.length : Int)
                                · rw [if_pos c33] at H
                                  have c33b0 : decide (x105_4 < (t210.length : Int)) = true := decide_eq_true c33
                                  clear c33
                                  by_cases c34 : x17_4 = true
                                  · subst c34
                                    have H1 : (if x105_4 < (t218.length : Int) then (if x105_4 < (t214.length : Int) then (if (rd t210 x105_4) = (rd t214 x105_4) then (laws_FnRingAgain.l0 k4 a1 t208 t214 t218 ((rd t210 x105_4) == (rd t218 x105_4)) t210 (t210.length : Int) (wrap64 (x105_4 + 1))) else (some false)) else (none)) else (none)) = some r := by rw [if_pos rfl] at H; exact H
                                    clear H
                                    have H := H1
                                    clear H1
                                    by_cases c35 : x105_4 < (t218.length : Int)
                                    · rw [if_pos c35] at H
                                      have c35b0 : decide (x105_4 < (t218.length : Int)) = true := decide_eq_true c35
                                      clear c35
                                      by_cases c36 : x105_4 < (t214.length : Int)
                                      · rw [if_pos c36] at H
                                        have c36b0 : decide (x105_4 < (t214.length : Int)) = true := decide_eq_true c36
                                        clear c36
                                        by_cases c37 : (rd t210 x105_4) = (rd t214 x105_4)
                                        · rw [if_pos c37] at H
                                          have c37b0 : ((rd t210 x105_4) == (rd t214 x105_4)) = true := beq_iff_eq.mpr c37
                                          have c37b1 : ((rd t210 x105_4) != (rd t214 x105_4)) = false := bne_eq_false_iff_eq.mpr c37
                                          clear c37
                                          have H' := Aside0.mk H
                                          clear H
                                          have p222 : 0 ≤ (x105_4 : Int) := of_decide_eq_true (by first | (with_reducible assumption) | assumption)
                                          have q222 : x105_4 < (t210.length : Int) := of_decide_eq_true (by first | (with_reducible assumption) | assumption)
                                          obtain ⟨ad222, e222, hx222_0⟩ := Kd.at_int (Kd.R_reads' HO_103.out).2.2 x105_4 p222 q222
                                          cases e222
                                          replace p222 := eq_true p222
                                          replace q222 := eq_true q222
                                          obtain ⟨Ao38, co38, eo38⟩ := Kd.R_slice HO_15.out
                                          subst eo38
                                          have p223 : 0 ≤ (x105_4 : Int) := of_decide_eq_true (by first | (with_reducible assumption) | assumption)
                                          have q223 : x105_4 < (t218.length : Int) := of_decide_eq_true (by first | (with_reducible assumption) | assumption)
                                          obtain ⟨ad223, e223, hx223_0⟩ := Kd.at_int (Kd.R_reads' HO_15.out).2.2 x105_4 p223 q223
                                          cases e223
                                          replace p223 := eq_true p223
                                          replace q223 := eq_true q223
                                          obtain ⟨Ao39, co39, eo39⟩ := Kd.R_slice HO_13.out
                                          subst eo39
                                          have p224 : 0 ≤ (x105_4 : Int) := of_decide_eq_true (by first | (with_reducible assumption) | assumption)
                                          have q224 : x105_4 < (t214.length : Int) := of_decide_eq_true (by first | (with_reducible assumption) | assumption)
                                          obtain ⟨ad224, e224, hx224_0⟩ := Kd.at_int (Kd.R_reads' HO_13.out).2.2 x105_4 p224 q224
                                          cases e224
                                          replace p224 := eq_true p224
                                          replace q224 := eq_true q224
                                          go_wp2
                                          go_roundg k4
                                          case measure => have := HJ6.out; have := HJ13.out; have := HJ22.out; have := HK4.out; omega
                                          case rel => exact ⟨(((rd t210 x105_4) == (rd t218 x105_4))), (wrap64 (x105_4 + 1)), (by first | rfl | (simp; done) | (simp [*]; done)), (by first | rfl | (simp; done) | (simp [*]; done)), H', ⟨by have := HJ6.out; have := HJ13.out; have := HJ22.out; have := HK4.out; omega⟩, ⟨by (with_reducible repeat (first | apply Kd.R_alloc | apply Kd.R_drewN | apply Kd.R_drew)); exact HO_13.out⟩, ⟨by (with_reducible repeat (first | apply Kd.R_alloc | apply Kd.R_drewN | apply Kd.R_drew)); exact HO_15.out⟩, ⟨by (with_reducible repeat (first | apply Kd.R_alloc | apply Kd.R_drewN | apply Kd.R_drew)); exact HO_103.out⟩, ⟨by repeat (first | (with_reducible first | exact HB.out | apply below_alloc | apply pw_below_drewN | apply below_drew1) | exact HB.out)⟩⟩
                                        · rw [if_neg c37] at H
                                          have c37b0 : ((rd t210 x105_4) == (rd t214 x105_4)) = false := beq_eq_false_iff_ne.mpr c37
                                          have c37b1 : ((rd t210 x105_4) != (rd t214 x105_4)) = true := bne_iff_ne.mpr c37
                                          obtain rfl := Option.some.inj H
                                          have p222 : 0 ≤ (x105_4 : Int) := of_decide_eq_true (by first | (with_reducible assumption) | assumption)
                                          have q222 : x105_4 < (t210.length : Int) := of_decide_eq_true (by first | (with_reducible assumption) | assumption)
                                          obtain ⟨ad222, e222, hx222_0⟩ := Kd.at_int (Kd.R_reads' HO_103.out).2.2 x105_4 p222 q222
                                          cases e222
                                          replace p222 := eq_true p222
                                          replace q222 := eq_true q222
                                          obtain ⟨Ao40, co40, eo40⟩ := Kd.R_slice HO_15.out
                                          subst eo40
                                          have p223 : 0 ≤ (x105_4 : Int) := of_decide_eq_true (by first | (with_reducible assumption) | assumption)
                                          have q223 : x105_4 < (t218.length : Int) := of_decide_eq_true (by first | (with_reducible assumption) | assumption)
                                          obtain ⟨ad223, e223, hx223_0⟩ := Kd.at_int (Kd.R_reads' HO_15.out).2.2 x105_4 p223 q223
                                          cases e223
                                          replace p223 := eq_true p223
                                          replace q223 := eq_true q223
                                          obtain ⟨Ao41, co41, eo41⟩ := Kd.R_slice HO_13.out
                                          subst eo41
                                          have p224 : 0 ≤ (x105_4 : Int) := of_decide_eq_true (by first | (with_reducible assumption) | assumption)
                                          have q224 : x105_4 < (t214.length : Int) := of_decide_eq_true (by first | (with_reducible assumption) | assumption)
                                          obtain ⟨ad224, e224, hx224_0⟩ := Kd.at_int (Kd.R_reads' HO_13.out).2.2 x105_4 p224 q224
                                          cases e224
                                          replace p224 := eq_true p224
                                          replace q224 := eq_true q224
                                          go_wp2
                                          go_ret
                                          exact ⟨by first | rfl | (simp [errW_none, errW_some] <;> rfl) | (simp only [← hji20]; first | rfl | (simp [errW_none, errW_some] <;> rfl)) | (simp [*, errW_none, errW_some] <;> rfl), by repeat (first | (with_reducible first | exact HB.out | apply below_alloc | apply pw_below_drewN | apply below_drew1) | exact HB.out)⟩
                                      · rw [if_neg c36] at H
                                        exact absurd H (by simp)
                                    · rw [if_neg c35] at H
                                      exact absurd H (by simp)
                                  · replace c34 := Bool.eq_false_iff.mpr c34
                                    subst c34
                                    have H1 : (if x105_4 < (t214.length : Int) then (if (rd t210 x105_4) = (rd t214 x105_4) then (laws_FnRingAgain.l0 k4 a1 t208 t214 t218 false t210 (t210.length : Int) (wrap64 (x105_4 + 1))) else (some false)) else (none)) = some r := by rw [if_neg (show ¬ (false = true) by decide)] at H; exact H
                                    clear H
                                    have H := H1
                                    clear H1
                                    by_cases c42 : x105_4 < (t214.length : Int)
                                    · rw [if_pos c42] at H
                                      have c42b0 : decide (x105_4 < (t214.length : Int)) = true := decide_eq_true c42
                                      clear c42
                                      by_cases c43 : (rd t210 x105_4) = (rd t214 x105_4)
                                      · rw [if_pos c43] at H
                                        have c43b0 : ((rd t210 x105_4) == (rd t214 x105_4)) = true := beq_iff_eq.mpr c43
                                        have c43b1 : ((rd t210 x105_4) != (rd t214 x105_4)) = false := bne_eq_false_iff_eq.mpr c43
                                        clear c43
                                        have H' := Aside0.mk H
                                        clear H
                                        have p222 : 0 ≤ (x105_4 : Int) := of_decide_eq_true (by first | (with_reducible assumption) | assumption)
                                        have q222 : x105_4 < (t210.length : Int) := of_decide_eq_true (by first | (with_reducible assumption) | assumption)
                                        obtain ⟨ad222, e222, hx222_0⟩ := Kd.at_int (Kd.R_reads' HO_103.out).2.2 x105_4 p222 q222
                                        cases e222
                                        replace p222 := eq_true p222
                                        replace q222 := eq_true q222
                                        obtain ⟨Ao44, co44, eo44⟩ := Kd.R_slice HO_13.out
                                        subst eo44
                                        have p225 : 0 ≤ (x105_4 : Int) := of_decide_eq_true (by first | (with_reducible assumption) | assumption)
                                        have q225 : x105_4 < (t214.length : Int) := of_decide_eq_true (by first | (with_reducible assumption) | assumption)
                                        obtain ⟨ad225, e225, hx225_0⟩ := Kd.at_int (Kd.R_reads' HO_13.out).2.2 x105_4 p225 q225
                                        cases e225
                                        replace p225 := eq_true p225
                                        replace q225 := eq_true q225
                                        go_wp2
                                        go_roundg k4
                                        case measure => have := HJ6.out; have := HJ13.out; have := HJ22.out; have := HK4.out; omega
                                        case rel => exact ⟨(false), (wrap64 (x105_4 + 1)), (by first | rfl | (simp; done) | (simp [*]; done)), (by first | rfl | (simp; done) | (simp [*]; done)), H', ⟨by have := HJ6.out; have := HJ13.out; have := HJ22.out; have := HK4.out; omega⟩, ⟨by (with_reducible repeat (first | apply Kd.R_alloc | apply Kd.R_drewN | apply Kd.R_drew)); exact HO_13.out⟩, ⟨by (with_reducible repeat (first | apply Kd.R_alloc | apply Kd.R_drewN | apply Kd.R_drew)); exact HO_15.out⟩, ⟨by (with_reducible repeat (first | apply Kd.R_alloc | apply Kd.R_drewN | apply Kd.R_drew)); exact HO_103.out⟩, ⟨by repeat (first | (with_reducible first | exact HB.out | apply below_alloc | apply pw_below_drewN | apply below_drew1) | exact HB.out)⟩⟩
                                      · rw [if_neg c43] at H
                                        have c43b0 : ((rd t210 x105_4) == (rd t214 x105_4)) = false := beq_eq_false_iff_ne.mpr c43
                                        have c43b1 : ((rd t210 x105_4) != (rd t214 x105_4)) = true := bne_iff_ne.mpr c43
                                        obtain rfl := Option.some.inj H
                                        have p222 : 0 ≤ (x105_4 : Int) := of_decide_eq_true (by first | (with_reducible assumption) | assumption)
                                        have q222 : x105_4 < (t210.length : Int) := of_decide_eq_true (by first | (with_reducible assumption) | assumption)
                                        obtain ⟨ad222, e222, hx222_0⟩ := Kd.at_int (Kd.R_reads' HO_103.out).2.2 x105_4 p222 q222
                                        cases e222
                                        replace p222 := eq_true p222
                                        replace q222 := eq_true q222
                                        obtain ⟨Ao45, co45, eo45⟩ := Kd.R_slice HO_13.out
                                        subst eo45
                                        have p225 : 0 ≤ (x105_4 : Int) := of_decide_eq_true (by first | (with_reducible assumption) | assumption)
                                        have q225 : x105_4 < (t214.length : Int) := of_decide_eq_true (by first | (with_reducible assumption) | assumption)
                                        obtain ⟨ad225, e225, hx225_0⟩ := Kd.at_int (Kd.R_reads' HO_13.out).2.2 x105_4 p225 q225
                                        cases e225
                                        replace p225 := eq_true p225
                                        replace q225 := eq_true q225
                                        go_wp2
                                        go_ret
                                        exact ⟨by first | rfl | (simp [errW_none, errW_some] <;> rfl) | (simp only [← hji20]; first | rfl | (simp [errW_none, errW_some] <;> rfl)) | (simp [*, errW_none, errW_some] <;> rfl), by repeat (first | (with_reducible first | exact HB.out | apply below_alloc | apply pw_below_drewN | apply below_drew1) | exact HB.out)⟩
                                    · rw [if_neg c42] at H
                                      exact absurd H (by simp)
                                · rw [if_neg c33] at H
                                  exact absurd H (by simp)
                              · rw [if_neg c32] at H
                                exact absurd H (by simp)
                            · rw [if_neg c31] at H
                              have c31b0 : decide (x105_4 < (t210.length : Int)) = false := decide_eq_false c31
                              clear c31
                              by_cases c46 : t208 ≥ 1
                              · rw [if_pos c46] at H
                                have c46b0 : decide (1 ≤ t208) = true := decide_eq_true c46
                                clear c46
                                by_cases c47 : t208 = 0
                                · rw [if_pos c47] at H
                                  exact absurd H (by simp)
                                · rw [if_neg c47] at H
                                  have c47b0 : (t208 == 0) = false := beq_eq_false_iff_ne.mpr c47
                                  have c47b1 : (t208 != 0) = true := bne_iff_ne.mpr c47
                                  obtain rfl := Option.some.inj H
                                  go_wp2
                                  go_ret
                                  exact ⟨by first | rfl | (simp [errW_none, errW_some] <;> rfl) | (simp only [← hji20]; first | rfl | (simp [errW_none, errW_some] <;> rfl)) | (simp [*, errW_none, errW_some] <;> rfl), by repeat (first | (with_reducible first | exact HB.out | apply below_alloc | apply pw_below_drewN | apply below_drew1) | exact HB.out)⟩
                              · rw [if_neg c46] at H
                                have c46b0 : decide (1 ≤ t208) = false := decide_eq_false c46
                                clear c46
                                obtain rfl := Option.some.inj H
                                go_wp2
                                go_ret
                                exact ⟨by first | rfl | (simp [errW_none, errW_some] <;> rfl) | (simp only [← hji20]; first | rfl | (simp [errW_none, errW_some] <;> rfl)) | (simp [*, errW_none, errW_some] <;> rfl), by repeat (first | (with_reducible first | exact HB.out | apply below_alloc | apply pw_below_drewN | apply below_drew1) | exact HB.out)⟩

/-- THE ONE PURE STATEMENT of laws_FnRingAgain: yours. -/
def laws_FnRingAgain.Pure : Prop := ∀ (l0 : List Int) (a1 : Int), l0.length ≤ maxLen → l0.length * 8 ≤ 140737488351232 → (∀ x ∈ l0, (Lit.int .i64 x).wf = true) → (Lit.int .i64 a1).wf = true → ∃ k, laws_FnRingAgain.f k l0 a1 = some true
theorem laws_FnRingAgain.walk (P : laws_FnRingAgain.Pure) (a0 : Option Addr) (len0 cap0 : Nat) (z0 : List Int) (a1 : Int) (w : World) (w0 : (a0 = none ∧ len0 = 0 ∧ cap0 = 0 ∧ z0 = []) ∨ ∃ x, a0 = some x ∧ len0 ≤ cap0 ∧ cap0 ≤ maxLen ∧ z0.length = cap0 ∧ (∀ i, i < z0.length → w.cell? (x.add i) = some (.int .i64 (z0.getD i 0))) ∧ ∀ n ∈ z0, (Lit.int .i64 n).wf = true) (y0 : len0 * 8 ≤ 140737488351232) (w1 : (Lit.int .i64 a1).wf = true) (hG : Gl w) :
    Calls Tryd.prog 3 #[.slice a0 len0 cap0, .int .i64 a1] w fun e w' => e = .returned (.bool true) ∧ Below w.heap.size w w' := by
  obtain ⟨l0, rfl, hr0, hm0, hw0, hc0⟩ := ReadsInt.ofRowC w0
  obtain ⟨k, h⟩ := P l0 a1 hm0 y0 hw0 w1
  refine (laws_FnRingAgain.calls k _ _ l0 a1 true w (Kd.C_of_reads (d := (0 : Int)) (h1 := fun _ => rfl) hr0) hc0 hG h).mono ?_
  rintro e w' ⟨rfl, hd⟩
  exact ⟨rfl, hd⟩

end Go.Proofs.YtffhhhkdnkdlgaaDoor.PFnRingAgain
