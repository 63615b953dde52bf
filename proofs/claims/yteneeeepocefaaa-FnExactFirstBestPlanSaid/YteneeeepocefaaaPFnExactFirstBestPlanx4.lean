-- Written by a program of this session (wip/tool/myprint.py) over the translation. Not trusted: Lean checks it.
import Derived.Test.YteneeeepocefaaaPFnExactFirstBestPlanx0
import Derived.Test.YteneeeepocefaaaPFnExactFirstBestPlanx1
import Derived.Test.YteneeeepocefaaaPFnExactFirstBestPlanx2
import Derived.Test.YteneeeepocefaaaPFnExactFirstBestPlanx3
namespace Go.Proofs.Yteneeeepocefaaa.PFnExactFirstBestPlan
open Go.RowKit Go.Proofs.YteneeeepocefaaaW.PrintWords Go.Proofs.YteneeeepocefaaaW.PrintLast Go.Proofs.YteneeeepocefaaaW.PrintMore
attribute [local go_sem] max2_int min2_int max_two min_two max_three min_three max_four min_four   -- for this text's walks alone
set_option linter.unusedVariables false
set_option linter.unusedSimpArgs false

/-! ### impl_bestPlans: function 35, by hand -/
/-- What the closure does with a plan: the first best one is kept, its end, and how many are as good. -/
def BestPlans.cb (jobs : List Int) (m : Int) (k : Nat) (s : List Int × Int × Int) (l : List Int) : Option (List Int × Int × Int) :=
  if l = [] then none else (impl_endOf.f k jobs m l).bind fun e => (slices_Clone_int_int.f l).bind fun c => if s.1 = [] then some (c, e, 1) else if e < s.2.1 then some (c, e, 1) else if e = s.2.1 then some (s.1, s.2.1, wrap64 (s.2.2 + 1)) else some s
def impl_bestPlans.f (k : Nat) (l0 : List Int) (a1 : Int) : Option (Int × List Int × Int × Bool) := (impl_areMachines.f l0 a1).bind fun t => (if t = true then ((impl_listsOf.f (BestPlans.cb l0 a1) k (l0.length : Int) (wrap64 (a1 - 1)) ([], 0, 0)).bind fun r => (some (r.2.1, r.1, r.2.2, true))) else (some (0, [], 0, false)))
theorem BestPlans.cb_mono (jobs : List Int) (m : Int) (k : Nat) (s : List Int × Int × Int) (l : List Int) : LeO (BestPlans.cb jobs m k s l) (BestPlans.cb jobs m (k + 1) s l) := LeO.ite (LeO.refl _) (LeO.bind (impl_endOf.mono _ _ _ _) (fun _ => LeO.refl _))
theorem impl_bestPlans.mono : ∀ a0 a1 k, LeO (impl_bestPlans.f k a0 a1) (impl_bestPlans.f (k + 1) a0 a1) := fun a0 a1 k => LeO.bind (LeO.refl _) (fun _ => LeO.ite (LeO.bind (impl_listsOf.mono _ (BestPlans.cb_mono a0 a1) _ _ _ _) (fun _ => LeO.refl _)) (LeO.refl _))
/-- The slice of a plan that is kept: nil as long as there is none. -/
def BestPlans.slot (v : Value) (l : List Int) : Prop := (l = [] ∧ v = .slice none 0 0) ∨ ∃ ad n c, v = .slice (some ad) n c ∧ l ≠ []
/-- What a call of the closure leaves, from W on: the boxes b3 (best), b4 (least), b5 (count). -/
def BestPlans.Post (s s' : List Int × Int × Int) (b3 b4 b5 : Nat) (W W' : World) : Prop :=
  (∃ W1 v, Below W.heap.size W W1 ∧ Kd.R (Kd.int .i64) 3 W1 W.heap.size (fun _ => True) v s'.1 ∧ BestPlans.slot v s'.1 ∧ W' = ((W1.setCell ⟨b3, 0, none⟩ v).setCell ⟨b4, 0, none⟩ (.int .i64 s'.2.1)).setCell ⟨b5, 0, none⟩ (.int .i64 s'.2.2)) ∨
  (∃ W1, Below W.heap.size W W1 ∧ s'.1 = s.1 ∧ s'.2.1 = s.2.1 ∧ W' = W1.setCell ⟨b5, 0, none⟩ (.int .i64 s'.2.2)) ∨ (Below W.heap.size W W' ∧ s' = s)
theorem bp_set {W : World} {b : Nat} {o : Obj} (h : W.heap[b]? = some o) {p : Addr} (hb : b ≠ p.block) (u : Value) : (W.setCell p u).heap[b]? = some o := (Below.heap_setCell W p u b hb).trans h
set_option maxHeartbeats 8000000 in
set_option maxRecDepth 100000 in
theorem BestPlans.each (k : Nat) (jobs : List Int) (m : Int) (s s' : List Int × Int × Int) (b1 b2 b3 b4 b5 : Nat) (Aj : Option Addr) (cj : Nat) (A : Option Addr) (c : Nat) (l : List Int) (vb : Value) (W : World) (hl : l ≠ [])
    (h1 : W.heap[b1]? = some (.cells #[.slice Aj jobs.length cj] 22 (0, 0))) (h2 : W.heap[b2]? = some (.cells #[.int .i64 m] 3 (0, 0))) (h3 : W.heap[b3]? = some (.cells #[vb] 22 (0, 0))) (h4 : W.heap[b4]? = some (.cells #[.int .i64 s.2.1] 3 (0, 0))) (h5 : W.heap[b5]? = some (.cells #[.int .i64 s.2.2] 3 (0, 0)))
    (n34 : b3 ≠ b4) (n35 : b3 ≠ b5) (n45 : b4 ≠ b5) (hs : BestPlans.slot vb s.1) (hrj : Kd.C (Kd.int .i64) W Aj jobs.length jobs) (hcj : jobs.length ≤ cj) (hr : Kd.C (Kd.int .i64) W A l.length l) (hc : l.length ≤ c) (h : BestPlans.cb jobs m k s l = some s') :
    Calls Try.prog 51 #[.slice A l.length c, .pointer (some ⟨b1, 0, none⟩), .pointer (some ⟨b2, 0, none⟩), .pointer (some ⟨b3, 0, none⟩), .pointer (some ⟨b4, 0, none⟩), .pointer (some ⟨b5, 0, none⟩)] W fun e W' => (∃ v, e = .returned v) ∧ BestPlans.Post s s' b3 b4 b5 W W' := by
  obtain ⟨sb, sl, sc⟩ := s
  rw [BestPlans.cb, if_neg hl] at h
  obtain ⟨en, hA, H0⟩ := Option.bind_eq_some_iff.mp h
  obtain ⟨cl, hC, H⟩ := Option.bind_eq_some_iff.mp H0
  clear H0
  dsimp only at H h4 h5 hs
  have HE := Aside0.mk (impl_endOf.calls k Aj cj jobs m A c l en W hrj hcj hr hc hA)
  have HCl := Aside0.mk hC
  have HR := Aside0.mk hr
  have HL := Aside0.mk hc
  have H1 := Aside0.mk h1
  have H2 := Aside0.mk h2
  have H3 := Aside0.mk h3
  have H4 := Aside0.mk h4
  have H5 := Aside0.mk h5
  have N34 := Aside0.mk n34
  have N35 := Aside0.mk n35
  have N45 := Aside0.mk n45
  have HNE := Aside0.mk hl
  have e1 := cell_of_one h1
  have e2 := cell_of_one h2
  clear h hA hC hrj hcj hr hc h1 h2 h3 h4 h5 n34 n35 n45 hl
  have hcl : cl = l := by
    have := HCl.out
    unfold slices_Clone_int_int.f at this
    split at this
    · exact (Option.some.inj this).symm
    · cases this
  have hcl' := hcl.symm
  clear hcl
  subst hcl'
  rcases hs with ⟨rfl, rfl⟩ | ⟨ad, n, c', rfl, hsb⟩
  · -- the first plan
    have hq : ∀ W : World, (binOp .eql 22 (.slice none 0 0) (.slice none 0 0)).run Try.prog W = .ok (.bool true) W := fun W => Lib.run_eql_slice_nil (P := Try.prog) W 22 3 none 0 0 0 0 Try.underlying22
    rw [if_pos rfl] at H
    obtain rfl := (Option.some.inj H).symm
    clear H
    go_enter Try.func51, Try.ntmps51
    go_wp2_with (first | (go_at_call 52; refine HE.out.mono ?_; rintro e w6 ⟨rfl, hb⟩; have c3 := cell_of_one ((hb.block b3 (lt_of_block H3.out)).trans H3.out); have c4 := cell_of_one ((hb.block b4 (lt_of_block H4.out)).trans H4.out); have c5 := cell_of_one ((hb.block b5 (lt_of_block H5.out)).trans H5.out); have f5 := free_of_one ((hb.block b5 (lt_of_block H5.out)).trans H5.out); have HB6 := Aside0.mk hb; clear hb) | (go_at_call 53; refine (slices_Clone_int_int.calls _ _ l l _ (Kd.C_below HR.out HB6.out) HL.out HCl.out).mono ?_; rintro e w7 ⟨v, rfl, ho, hb⟩; have HB7 := Aside0.mk (HB6.out.trans (hb.mono HB6.out.size)); have x3 := (HB7.out.block b3 (lt_of_block H3.out)).trans H3.out; have x4 := (HB7.out.block b4 (lt_of_block H4.out)).trans H4.out; have x5 := (HB7.out.block b5 (lt_of_block H5.out)).trans H5.out; have HO7 := Aside0.mk (Kd.R_lower ho HB6.out.size); obtain ⟨ad7, cc7, rfl⟩ := Kd.R_slice1 ho (List.length_pos_iff.2 HNE.out); have g3 := cell_of_one x3; have f3 := free_of_one x3; have g4 := cell_of_one (bp_set x4 (p := ⟨b3, 0, none⟩) N34.out.symm (.slice (some ad7) l.length cc7)); have f4 := free_of_one (bp_set x4 (p := ⟨b3, 0, none⟩) N34.out.symm (.slice (some ad7) l.length cc7)); have g5 := cell_of_one (bp_set (bp_set x5 (p := ⟨b3, 0, none⟩) N35.out.symm (.slice (some ad7) l.length cc7)) (p := ⟨b4, 0, none⟩) N45.out.symm (.int .i64 en)); have f5' := free_of_one (bp_set (bp_set x5 (p := ⟨b3, 0, none⟩) N35.out.symm (.slice (some ad7) l.length cc7)) (p := ⟨b4, 0, none⟩) N45.out.symm (.int .i64 en)); clear hb ho x3 x4 x5))
    go_end0
    exact ⟨⟨_, rfl⟩, .inl ⟨w7, _, HB7.out, HO7.out, .inr ⟨_, _, _, rfl, HNE.out⟩, rfl⟩⟩
  have hq : ∀ W : World, (binOp .eql 22 (.slice (some ad) n c') (.slice none 0 0)).run Try.prog W = .ok (.bool false) W := fun W => Lib.run_eql_slice_nil (P := Try.prog) W 22 3 (some ad) n c' 0 0 Try.underlying22
  rw [if_neg hsb] at H
  by_cases c1 : en < sl
  · rw [if_pos c1] at H
    obtain rfl := (Option.some.inj H).symm
    have d1 : decide (en < sl) = true := decide_eq_true c1
    clear H c1
    go_enter Try.func51, Try.ntmps51
    go_wp2_with (first | (go_at_call 52; refine HE.out.mono ?_; rintro e w6 ⟨rfl, hb⟩; have c3 := cell_of_one ((hb.block b3 (lt_of_block H3.out)).trans H3.out); have c4 := cell_of_one ((hb.block b4 (lt_of_block H4.out)).trans H4.out); have c5 := cell_of_one ((hb.block b5 (lt_of_block H5.out)).trans H5.out); have f5 := free_of_one ((hb.block b5 (lt_of_block H5.out)).trans H5.out); have HB6 := Aside0.mk hb; clear hb) | (go_at_call 53; refine (slices_Clone_int_int.calls _ _ l l _ (Kd.C_below HR.out HB6.out) HL.out HCl.out).mono ?_; rintro e w7 ⟨v, rfl, ho, hb⟩; have HB7 := Aside0.mk (HB6.out.trans (hb.mono HB6.out.size)); have x3 := (HB7.out.block b3 (lt_of_block H3.out)).trans H3.out; have x4 := (HB7.out.block b4 (lt_of_block H4.out)).trans H4.out; have x5 := (HB7.out.block b5 (lt_of_block H5.out)).trans H5.out; have HO7 := Aside0.mk (Kd.R_lower ho HB6.out.size); obtain ⟨ad7, cc7, rfl⟩ := Kd.R_slice1 ho (List.length_pos_iff.2 HNE.out); have g3 := cell_of_one x3; have f3 := free_of_one x3; have g4 := cell_of_one (bp_set x4 (p := ⟨b3, 0, none⟩) N34.out.symm (.slice (some ad7) l.length cc7)); have f4 := free_of_one (bp_set x4 (p := ⟨b3, 0, none⟩) N34.out.symm (.slice (some ad7) l.length cc7)); have g5 := cell_of_one (bp_set (bp_set x5 (p := ⟨b3, 0, none⟩) N35.out.symm (.slice (some ad7) l.length cc7)) (p := ⟨b4, 0, none⟩) N45.out.symm (.int .i64 en)); have f5' := free_of_one (bp_set (bp_set x5 (p := ⟨b3, 0, none⟩) N35.out.symm (.slice (some ad7) l.length cc7)) (p := ⟨b4, 0, none⟩) N45.out.symm (.int .i64 en)); clear hb ho x3 x4 x5))
    go_end0
    exact ⟨⟨_, rfl⟩, .inl ⟨w7, _, HB7.out, HO7.out, .inr ⟨_, _, _, rfl, HNE.out⟩, rfl⟩⟩
  · rw [if_neg c1] at H
    have d1 : decide (en < sl) = false := decide_eq_false c1
    clear c1
    by_cases c2 : en = sl
    · rw [if_pos c2] at H
      obtain rfl := (Option.some.inj H).symm
      have d2 : (en == sl) = true := beq_iff_eq.mpr c2
      clear H c2
      go_enter Try.func51, Try.ntmps51
      go_wp2_with (first | (go_at_call 52; refine HE.out.mono ?_; rintro e w6 ⟨rfl, hb⟩; have c3 := cell_of_one ((hb.block b3 (lt_of_block H3.out)).trans H3.out); have c4 := cell_of_one ((hb.block b4 (lt_of_block H4.out)).trans H4.out); have c5 := cell_of_one ((hb.block b5 (lt_of_block H5.out)).trans H5.out); have f5 := free_of_one ((hb.block b5 (lt_of_block H5.out)).trans H5.out); have HB6 := Aside0.mk hb; clear hb))
      go_end0
      exact ⟨⟨_, rfl⟩, .inr (.inl ⟨w6, HB6.out, rfl, rfl, rfl⟩)⟩
    · rw [if_neg c2] at H
      obtain rfl := (Option.some.inj H).symm
      have d2 : (en == sl) = false := beq_eq_false_iff_ne.mpr c2
      clear H c2
      go_enter Try.func51, Try.ntmps51
      go_wp2_with (first | (go_at_call 52; refine HE.out.mono ?_; rintro e w6 ⟨rfl, hb⟩; have c3 := cell_of_one ((hb.block b3 (lt_of_block H3.out)).trans H3.out); have c4 := cell_of_one ((hb.block b4 (lt_of_block H4.out)).trans H4.out); have c5 := cell_of_one ((hb.block b5 (lt_of_block H5.out)).trans H5.out); have f5 := free_of_one ((hb.block b5 (lt_of_block H5.out)).trans H5.out); have HB6 := Aside0.mk hb; clear hb))
      go_end0
      exact ⟨⟨_, rfl⟩, .inr (.inr ⟨HB6.out, rfl⟩)⟩
/-- Between the calls: the boxes, and the plan that is kept, which is none of the list's block b. -/
def BestPlans.J (w0 : World) (jobs : List Int) (Aj : Option Addr) (cj : Nat) (m : Int) (b1 b2 b3 b4 b5 N b : Nat) (s : List Int × Int × Int) (W : World) : Prop :=
  Below w0.heap.size w0 W ∧ W.heap[b1]? = some (.cells #[.slice Aj jobs.length cj] 22 (0, 0)) ∧ W.heap[b2]? = some (.cells #[.int .i64 m] 3 (0, 0)) ∧ (∃ v, W.heap[b3]? = some (.cells #[v] 22 (0, 0)) ∧ BestPlans.slot v s.1 ∧ Kd.R (Kd.int .i64) 3 W N (fun k => k ≠ b) v s.1) ∧
    W.heap[b4]? = some (.cells #[.int .i64 s.2.1] 3 (0, 0)) ∧ W.heap[b5]? = some (.cells #[.int .i64 s.2.2] 3 (0, 0))
theorem BestPlans.mv {w0 : World} {jobs : List Int} {Aj : Option Addr} {cj : Nat} {m : Int} {b1 b2 b3 b4 b5 N : Nat} (h0 : w0.heap.size ≤ N) (h1 : b1 < N) (h2 : b2 < N) (h3 : b3 < N) (h4 : b4 < N) (h5 : b5 < N) :
    ∀ b s W W1, N ≤ b → N ≤ W.heap.size → BestPlans.J w0 jobs Aj cj m b1 b2 b3 b4 b5 N b s W → KeepO b W W1 → BestPlans.J w0 jobs Aj cj m b1 b2 b3 b4 b5 N b s W1 := by
  intro b s W W1 hb hN ⟨j0, j1, j2, ⟨v, j3, j3', j3''⟩, j4, j5⟩ k
  have kk : ∀ q, q < N → W1.heap[q]? = W.heap[q]? := fun q hq => k.block q (by omega) (by omega)
  exact ⟨j0.trans ((k.below hb hN).mono h0), (kk b1 h1).trans j1, (kk b2 h2).trans j2, ⟨v, (kk b3 h3).trans j3, j3', Kd.R_step j3'' (fun q hq hl => k.block q hl hq)⟩, (kk b4 h4).trans j4, (kk b5 h5).trans j5⟩
theorem BestPlans.step {w0 : World} {jobs : List Int} {Aj : Option Addr} {cj : Nat} {m : Int} {b1 b2 b3 b4 b5 N b : Nat} {s s' : List Int × Int × Int} {W W' : World} (h0 : w0.heap.size ≤ b1) (h12 : b1 < b2) (h23 : b2 < b3) (h34 : b3 < b4) (h45 : b4 < b5) (h5N : b5 < N) (hb : N ≤ b) (hlt : b < W.heap.size)
    (h : BestPlans.J w0 jobs Aj cj m b1 b2 b3 b4 b5 N b s W) (hp : BestPlans.Post s s' b3 b4 b5 W W') : BestPlans.J w0 jobs Aj cj m b1 b2 b3 b4 b5 N b s' W' ∧ W.heap.size ≤ W'.heap.size ∧ ∀ q, N ≤ q → q < W.heap.size → W'.heap[q]? = W.heap[q]? := by
  obtain ⟨j0, j1, j2, ⟨v, j3, j3', j3''⟩, j4, j5⟩ := h
  rcases hp with ⟨W1, v', k, hR, hs, rfl⟩ | ⟨W1, k, e1, e2, rfl⟩ | ⟨k, rfl⟩
  · have kk : ∀ q, q < W.heap.size → W1.heap[q]? = W.heap[q]? := k.block
    have hsz := k.size
    have hR2 : Kd.R (Kd.int .i64) 3 (((W1.setCell ⟨b3, 0, none⟩ v').setCell ⟨b4, 0, none⟩ (.int .i64 s'.2.1)).setCell ⟨b5, 0, none⟩ (.int .i64 s'.2.2)) N (fun k => k ≠ b) v' s'.1 := by
      have r1 := Kd.R_mono (Kd.R_bound hR) (ok' := fun q => W.heap.size ≤ q) (fun q hq => hq.2.1)
      have r2 := Kd.R_far (p := ⟨b3, 0, none⟩) r1 (fun q hq => by show q ≠ b3; have : W.heap.size ≤ q := hq; omega) v'
      have r3 := Kd.R_far (p := ⟨b4, 0, none⟩) r2 (fun q hq => by show q ≠ b4; have : W.heap.size ≤ q := hq; omega) (.int .i64 s'.2.1)
      have r4 := Kd.R_far (p := ⟨b5, 0, none⟩) r3 (fun q hq => by show q ≠ b5; have : W.heap.size ≤ q := hq; omega) (.int .i64 s'.2.2)
      exact Kd.R_lower (Kd.R_mono r4 (fun q hq => by have : W.heap.size ≤ q := hq; omega)) (by omega)
    refine ⟨⟨?_, ?_, ?_, ⟨v', ?_, hs, hR2⟩, ?_, ?_⟩, by simpa [World.setCell] using hsz, fun q q1 q2 => ?_⟩
    · exact (((j0.trans (k.mono (by omega))).setCell (show w0.heap.size ≤ b3 by omega) _).setCell (show w0.heap.size ≤ b4 by omega) _).setCell (show w0.heap.size ≤ b5 by omega) _
    · exact bp_set (bp_set (bp_set ((kk b1 (by omega)).trans j1) (p := ⟨b3, 0, none⟩) (by show b1 ≠ b3; omega) _) (p := ⟨b4, 0, none⟩) (by show b1 ≠ b4; omega) _) (p := ⟨b5, 0, none⟩) (by show b1 ≠ b5; omega) _
    · exact bp_set (bp_set (bp_set ((kk b2 (by omega)).trans j2) (p := ⟨b3, 0, none⟩) (by show b2 ≠ b3; omega) _) (p := ⟨b4, 0, none⟩) (by show b2 ≠ b4; omega) _) (p := ⟨b5, 0, none⟩) (by show b2 ≠ b5; omega) _
    · exact bp_set (bp_set (one_setCell ((kk b3 (by omega)).trans j3)) (p := ⟨b4, 0, none⟩) (by show b3 ≠ b4; omega) _) (p := ⟨b5, 0, none⟩) (by show b3 ≠ b5; omega) _
    · exact bp_set (one_setCell (bp_set ((kk b4 (by omega)).trans j4) (p := ⟨b3, 0, none⟩) (by show b4 ≠ b3; omega) _)) (p := ⟨b5, 0, none⟩) (by show b4 ≠ b5; omega) _
    · exact one_setCell (bp_set (bp_set ((kk b5 (by omega)).trans j5) (p := ⟨b3, 0, none⟩) (by show b5 ≠ b3; omega) _) (p := ⟨b4, 0, none⟩) (by show b5 ≠ b4; omega) _)
    · rw [Below.heap_setCell _ _ _ _ (by show q ≠ b5; omega), Below.heap_setCell _ _ _ _ (by show q ≠ b4; omega), Below.heap_setCell _ _ _ _ (by show q ≠ b3; omega)]
      exact kk q q2
  · have kk : ∀ q, q < W.heap.size → W1.heap[q]? = W.heap[q]? := k.block
    have hsz := k.size
    have hR2 : Kd.R (Kd.int .i64) 3 (W1.setCell ⟨b5, 0, none⟩ (.int .i64 s'.2.2)) N (fun k => k ≠ b) v s'.1 := by
      rw [e1]
      have r1 := Kd.R_mono (Kd.R_bound (Kd.R_below j3'' k)) (ok' := fun q => q ≠ b ∧ N ≤ q) (fun q hq => ⟨hq.1, hq.2.1⟩)
      exact Kd.R_mono (Kd.R_far (p := ⟨b5, 0, none⟩) r1 (fun q hq => by show q ≠ b5; have := hq.2; omega) (.int .i64 s'.2.2)) (fun q hq => hq.1)
    refine ⟨⟨?_, ?_, ?_, ⟨v, ?_, by rw [e1]; exact j3', hR2⟩, ?_, ?_⟩, by simpa [World.setCell] using hsz, fun q q1 q2 => ?_⟩
    · exact (j0.trans (k.mono (by omega))).setCell (show w0.heap.size ≤ b5 by omega) _
    · exact bp_set ((kk b1 (by omega)).trans j1) (p := ⟨b5, 0, none⟩) (by show b1 ≠ b5; omega) _
    · exact bp_set ((kk b2 (by omega)).trans j2) (p := ⟨b5, 0, none⟩) (by show b2 ≠ b5; omega) _
    · exact bp_set ((kk b3 (by omega)).trans j3) (p := ⟨b5, 0, none⟩) (by show b3 ≠ b5; omega) _
    · rw [e2]; exact bp_set ((kk b4 (by omega)).trans j4) (p := ⟨b5, 0, none⟩) (by show b4 ≠ b5; omega) _
    · exact one_setCell ((kk b5 (by omega)).trans j5)
    · rw [Below.heap_setCell _ _ _ _ (by show q ≠ b5; omega)]
      exact kk q q2
  · have kk : ∀ q, q < W.heap.size → W'.heap[q]? = W.heap[q]? := k.block
    exact ⟨⟨j0.trans (k.mono (by omega)), (kk b1 (by omega)).trans j1, (kk b2 (by omega)).trans j2, ⟨v, (kk b3 (by omega)).trans j3, j3', Kd.R_below j3'' k⟩, (kk b4 (by omega)).trans j4, (kk b5 (by omega)).trans j5⟩, k.size, fun q _ q2 => kk q q2⟩
theorem BestPlans.two (w : World) (o1 o2 : Obj) : ((w.alloc o1).alloc o2).heap.size = w.heap.size + 2 ∧ ((w.alloc o1).alloc o2).heap[w.heap.size]? = some o1 ∧ ((w.alloc o1).alloc o2).heap[w.heap.size + 1]? = some o2 := by
  have hh : ((w.alloc o1).alloc o2).heap = (w.heap.push o1).push o2 := rfl
  rw [hh]
  refine ⟨by simp, ?_, ?_⟩
  · rw [Array.getElem?_push, if_neg (by rw [Array.size_push]; omega), Array.getElem?_push, if_pos rfl]
  · rw [Array.getElem?_push, if_pos (by rw [Array.size_push])]
/-- Three new boxes. -/
def BestPlans.made (w1 : World) : World := ((w1.alloc (.cells #[.slice none 0 0] 22)).alloc (.cells #[.int .i64 0] 3)).alloc (.cells #[.int .i64 0] 3)
theorem BestPlans.three (w1 : World) (o3 o4 o5 : Obj) : (((w1.alloc o3).alloc o4).alloc o5).heap.size = w1.heap.size + 3 ∧ (((w1.alloc o3).alloc o4).alloc o5).heap[w1.heap.size]? = some o3 ∧ (((w1.alloc o3).alloc o4).alloc o5).heap[w1.heap.size + 1]? = some o4 ∧ (((w1.alloc o3).alloc o4).alloc o5).heap[w1.heap.size + 2]? = some o5 ∧ ∀ q, q < w1.heap.size → (((w1.alloc o3).alloc o4).alloc o5).heap[q]? = w1.heap[q]? := by
  have hh : (((w1.alloc o3).alloc o4).alloc o5).heap = ((w1.heap.push o3).push o4).push o5 := rfl
  rw [hh]
  refine ⟨by simp, ?_, ?_, ?_, fun q hq => ?_⟩
  · rw [Array.getElem?_push, if_neg (by rw [Array.size_push, Array.size_push]; omega), Array.getElem?_push, if_neg (by rw [Array.size_push]; omega), Array.getElem?_push, if_pos rfl]
  · rw [Array.getElem?_push, if_neg (by rw [Array.size_push, Array.size_push]; omega), Array.getElem?_push, if_pos (by rw [Array.size_push])]
  · rw [Array.getElem?_push, if_pos (by rw [Array.size_push, Array.size_push])]
  · rw [Array.getElem?_push, if_neg (by rw [Array.size_push, Array.size_push]; omega), Array.getElem?_push, if_neg (by rw [Array.size_push]; omega), Array.getElem?_push, if_neg (by omega)]
theorem results_tmp4 {fn : Func} {t u v x : Tmp} (h : fn.results = #[.tmp t, .tmp u, .tmp v, .tmp x]) (tmps : Array Value) (P : Program) (w : World) :
    (results fn tmps).run P w = .ok (.tuple #[tmps.getD t undef, tmps.getD u undef, tmps.getD v undef, tmps.getD x undef]) w := by
  simp [results, h]
theorem BestPlans.made_size (w1 : World) : (BestPlans.made w1).heap.size = w1.heap.size + 3 := (BestPlans.three w1 (.cells #[.slice none 0 0] 22) (.cells #[.int .i64 0] 3) (.cells #[.int .i64 0] 3)).1
theorem BestPlans.hf {A0 : Option Addr} {c0 : Nat} {l0 : List Int} {a1 : Int} {w w1 : World} (hr : Kd.C (Kd.int .i64) w A0 l0.length l0) (hc : l0.length ≤ c0) (hs : w.heap.size + 2 ≤ w1.heap.size) :
    ∀ b k' s s' W (A : Option Addr) (c : Nat) (l : List Int), BestPlans.cb l0 a1 k' s l = some s' → BestPlans.J w l0 A0 c0 a1 w.heap.size (w.heap.size + 1) w1.heap.size (w1.heap.size + 1) (w1.heap.size + 1 + 1) (w1.heap.size + 3) b s W → (BestPlans.made w1).heap.size ≤ b → b < W.heap.size → Kd.C (Kd.int .i64) W A l.length l → l.length ≤ c → Calls Try.prog 51 (#[.slice A l.length c] ++ #[.pointer (some ⟨w.heap.size, 0, none⟩), .pointer (some ⟨w.heap.size + 1, 0, none⟩), .pointer (some ⟨w1.heap.size, 0, none⟩), .pointer (some ⟨w1.heap.size + 1, 0, none⟩), .pointer (some ⟨w1.heap.size + 1 + 1, 0, none⟩)]) W fun e W' => (∃ v, e = .returned v) ∧ BestPlans.J w l0 A0 c0 a1 w.heap.size (w.heap.size + 1) w1.heap.size (w1.heap.size + 1) (w1.heap.size + 1 + 1) (w1.heap.size + 3) b s' W' ∧ W.heap.size ≤ W'.heap.size ∧ ∀ q, (BestPlans.made w1).heap.size ≤ q → q < W.heap.size → W'.heap[q]? = W.heap[q]? := by
  intro b k' s s' W A c l h1 h2 h3 h4 h5 h6
  rw [BestPlans.made_size] at h3
  rw [BestPlans.made_size]
  obtain ⟨j0, j1, j2, ⟨v, j3, j3', j3''⟩, j4, j5⟩ := id h2
  refine (BestPlans.each k' l0 a1 s s' _ _ _ _ _ A0 c0 A c l v W ?_ j1 j2 j3 j4 j5 (by omega) (by omega) (by omega) j3' (Kd.C_below hr j0) hc h5 h6 h1).mono ?_
  · rintro rfl
    rw [BestPlans.cb, if_pos rfl] at h1
    cases h1
  · rintro e W' ⟨p1, p2⟩
    exact ⟨p1, BestPlans.step (Nat.le_refl _) (by omega) (by omega) (by omega) (by omega) (by omega) h3 h4 h2 p2⟩
theorem BestPlans.hmv {A0 : Option Addr} {c0 : Nat} {l0 : List Int} {a1 : Int} {w w1 : World} (hs : w.heap.size + 2 ≤ w1.heap.size) :
    ∀ b s W W1, (BestPlans.made w1).heap.size ≤ b → (BestPlans.made w1).heap.size ≤ W.heap.size → BestPlans.J w l0 A0 c0 a1 w.heap.size (w.heap.size + 1) w1.heap.size (w1.heap.size + 1) (w1.heap.size + 1 + 1) (w1.heap.size + 3) b s W → KeepO b W W1 → BestPlans.J w l0 A0 c0 a1 w.heap.size (w.heap.size + 1) w1.heap.size (w1.heap.size + 1) (w1.heap.size + 1 + 1) (w1.heap.size + 3) b s W1 := by
  intro b s W W1 h1 h2 h3 h4
  rw [BestPlans.made_size] at h1 h2
  exact BestPlans.mv (by omega) (by omega) (by omega) (by omega) (by omega) (by omega) b s W W1 h1 h2 h3 h4
theorem BestPlans.hJ {A0 : Option Addr} {c0 : Nat} {l0 : List Int} {a1 : Int} {w w1 : World} (hb : Below w.heap.size w w1) (y1 : (BestPlans.made w1).heap[w.heap.size]? = some (.cells #[.slice A0 l0.length c0] 22 (0, 0))) (y2 : (BestPlans.made w1).heap[w.heap.size + 1]? = some (.cells #[.int .i64 a1] 3 (0, 0))) (hs : w.heap.size + 2 ≤ w1.heap.size) :
    ∀ b W, (BestPlans.made w1).heap.size ≤ b → Below (BestPlans.made w1).heap.size (BestPlans.made w1) W → BestPlans.J w l0 A0 c0 a1 w.heap.size (w.heap.size + 1) w1.heap.size (w1.heap.size + 1) (w1.heap.size + 1 + 1) (w1.heap.size + 3) b ([], 0, 0) W := by
  intro b W h1 h2
  have hsz := BestPlans.made_size w1
  have ht := BestPlans.three w1 (.cells #[.slice none 0 0] 22) (.cells #[.int .i64 0] 3) (.cells #[.int .i64 0] 3)
  have kk : ∀ q, q < w1.heap.size + 3 → W.heap[q]? = (BestPlans.made w1).heap[q]? := fun q hq => h2.block q (by omega)
  have hbm : Below w.heap.size w (BestPlans.made w1) := below_alloc (below_alloc (below_alloc hb _) _) _
  exact ⟨hbm.trans (h2.mono (by omega)), (kk _ (by omega)).trans y1, (kk _ (by omega)).trans y2, ⟨.slice none 0 0, (kk _ (by omega)).trans ht.2.1, .inl ⟨rfl, rfl⟩, Kd.R_nil _ _ _ _ _⟩, (kk _ (by omega)).trans ht.2.2.1, (kk _ (by omega)).trans ht.2.2.2.1⟩
set_option maxHeartbeats 8000000 in
set_option maxRecDepth 100000 in
theorem impl_bestPlans.calls (k : Nat) (A0 : Option Addr) (c0 : Nat) (l0 : List Int) (a1 : Int) (r1 : Int) (r2 : List Int) (r3 : Int) (r4 : Bool) (w : World) (hr0 : Kd.C (Kd.int .i64) w A0 l0.length l0) (hc0 : l0.length ≤ c0) (h : impl_bestPlans.f k l0 a1 = some (r1, r2, r3, r4)) :
    Calls Try.prog 35 #[.slice A0 l0.length c0, .int .i64 a1] w fun e w' => ∃ v0_ : Value, e = .returned (.tuple #[.int .i64 r1, v0_, .int .i64 r3, .bool r4]) ∧ Kd.R (Kd.int .i64) 3 w' w.heap.size (fun _ => True) v0_ r2 ∧ Below w.heap.size w w' := by
  have eg : ∀ args w, (callFunc 51 args).run Try.prog w = .ok (.enter 51 args) w := enters_of Try.func51 (by kernel_rfl) rfl
  obtain ⟨t, hA, H⟩ := Option.bind_eq_some_iff.mp h
  have HR := Aside0.mk hr0
  have HC := Aside0.mk hc0
  have HA := Aside0.mk hA
  have EG := Aside0.mk eg
  have b1c := @cell_of_one ((w.alloc (.cells #[.slice A0 l0.length c0] 22)).alloc (.cells #[.int .i64 a1] 3)) w.heap.size (.slice A0 l0.length c0) 22 (BestPlans.two w _ _).2.1
  have b2c := @cell_of_one ((w.alloc (.cells #[.slice A0 l0.length c0] 22)).alloc (.cells #[.int .i64 a1] 3)) (w.heap.size + 1) (.int .i64 a1) 3 (BestPlans.two w _ _).2.2
  clear hA h hr0 hc0 eg
  cases t with
  | false =>
    rw [if_neg (by decide)] at H
    cases H
    go_enter Try.func35, Try.ntmps35
    go_wp2_with (go_at_call 28; refine (impl_areMachines.calls A0 c0 l0 a1 false _ (Kd.C_alloc (Kd.C_alloc HR.out _) _) HC.out HA.out).mono ?_; rintro e w1 ⟨rfl, hb⟩)
    ((try simp only [Exit.inBlock, Exit.then]); refine bodyPost_ret (results_tmp4 rfl _ _ _) rfl ?_)
    exact ⟨_, rfl, Kd.R_nil _ _ _ _ _, below_step (below_alloc (below_alloc (Below.refl _ _) _) _) hb⟩
  | true =>
    rw [if_pos rfl] at H
    obtain ⟨⟨z1, z2, z3⟩, hL, H⟩ := Option.bind_eq_some_iff.mp H
    cases H
    have HL := Aside0.mk hL
    clear hL
    go_enter Try.func35, Try.ntmps35
    go_wp2_with (first | (go_at_call 28; refine (impl_areMachines.calls A0 c0 l0 a1 true _ (Kd.C_alloc (Kd.C_alloc HR.out _) _) HC.out HA.out).mono ?_; rintro e w1 ⟨rfl, hb⟩; have g1 := (hb.block w.heap.size (by simp; omega)).trans (BestPlans.two w (.cells #[.slice A0 l0.length c0] 22) (.cells #[.int .i64 a1] 3)).2.1; have g2 := (hb.block (w.heap.size + 1) (by simp)).trans (BestPlans.two w (.cells #[.slice A0 l0.length c0] 22) (.cells #[.int .i64 a1] 3)).2.2; have HB1 := Aside0.mk (below_step (below_alloc (below_alloc (Below.refl w.heap.size w) _) _) hb); have HG1 := Aside0.mk g1; have HG2 := Aside0.mk g2; have HT := Aside0.mk (BestPlans.three w1 (.cells #[.slice none 0 0] 22) (.cells #[.int .i64 0] 3) (.cells #[.int .i64 0] 3)); have hsz1 := hb.size; rw [(BestPlans.two w _ _).1] at hsz1; have y1 := (HT.out.2.2.2.2 w.heap.size (by omega)).trans HG1.out; have y2 := (HT.out.2.2.2.2 (w.heap.size + 1) (by omega)).trans HG2.out; have z1c := cell_of_one y1; have z2c := cell_of_one y2; have Y1 := Aside0.mk y1; have Y2 := Aside0.mk y2; have HSZ := Aside0.mk hsz1; have HLC := Aside0.mk (impl_listsOf.calls (BestPlans.cb l0 a1) k (l0.length : Int) (wrap64 (a1 - 1)) 51 #[.pointer (some ⟨w.heap.size, 0, none⟩), .pointer (some ⟨w.heap.size + 1, 0, none⟩), .pointer (some ⟨w1.heap.size, 0, none⟩), .pointer (some ⟨w1.heap.size + 1, 0, none⟩), .pointer (some ⟨w1.heap.size + 1 + 1, 0, none⟩)] ([], 0, 0) (z1, z2, z3) (BestPlans.J w l0 A0 c0 a1 w.heap.size (w.heap.size + 1) w1.heap.size (w1.heap.size + 1) (w1.heap.size + 1 + 1) (w1.heap.size + 3)) (BestPlans.made w1) EG.out (BestPlans.hf HR.out HC.out HSZ.out) (BestPlans.hmv HSZ.out) (BestPlans.hJ HB1.out Y1.out Y2.out HSZ.out) HL.out); clear hb g1 g2 y1 y2 hsz1) | (go_at_call 50; refine HLC.out.mono ?_; rintro e w8 ⟨rfl, b8, hb8, hj⟩; obtain ⟨j0, j1, j2, ⟨v8, j3, j3', j3''⟩, j4, j5⟩ := hj; have q3 := cell_of_one j3; have q4 := cell_of_one j4; have q5 := cell_of_one j5; have HJ0 := Aside0.mk j0; have HJR := Aside0.mk (Kd.R_lower (Kd.R_mono j3'' (ok' := fun _ => True) (fun _ _ => trivial)) (show w.heap.size ≤ w1.heap.size + 3 by have := HSZ.out; omega)); clear j0 j1 j2 j3 j3' j3'' j4 j5))
    go_region
    all_goals (try go_wp2)
    all_goals ((try simp only [Exit.inBlock, Exit.then]); refine bodyPost_ret (results_tmp4 rfl _ _ _) rfl ?_)
    all_goals exact ⟨_, rfl, (by (with_reducible repeat (first | apply Kd.R_alloc | apply Kd.R_drewN | apply Kd.R_drew)); exact HJR.out), (by repeat (first | (with_reducible first | exact HJ0.out | apply below_alloc | apply pw_below_drewN | apply below_drew1) | exact HJ0.out))⟩

/-! ### impl_FirstBestPlan: function 24 -/
def impl_FirstBestPlan.f (k : Nat) (l0 : List Int) (a1 : Int) : Option (List Int × Bool) := (impl_bestPlans.f k l0 a1).bind fun bt146 => (some (bt146.2.1, bt146.2.2.2))
theorem impl_FirstBestPlan.mono : ∀ a0 a1 k, LeO (impl_FirstBestPlan.f k a0 a1) (impl_FirstBestPlan.f (k + 1) a0 a1) := by
  intro a0 a1 k
  unfold impl_FirstBestPlan.f
  repeat' first
      | (with_reducible exact impl_bestPlans.mono _ _ _)
      | (with_reducible exact LeO.refl _)
      | (with_reducible exact LeO.none _)
      | (with_reducible refine LeO.ite ?_ ?_)
      | (with_reducible refine LeO.bind ?_ (fun _ => ?_))
      | exact impl_bestPlans.mono _ _ _
      | exact LeO.none _
      | refine LeO.ite ?_ ?_
      | refine LeO.bind ?_ (fun _ => ?_)
set_option maxHeartbeats 8000000 in
set_option maxRecDepth 100000 in
theorem impl_FirstBestPlan.calls (k : Nat) (A0 : Option Addr) (c0 : Nat) (l0 : List Int) (a1 : Int) (r1 : List Int) (r2 : Bool) (w : World) (hr0 : Kd.C (Kd.int .i64) w A0 l0.length l0) (hc0 : l0.length ≤ c0) (h : impl_FirstBestPlan.f k l0 a1 = some (r1, r2)) :
    Calls Try.prog 24 #[.slice A0 l0.length c0, .int .i64 a1] w fun e w' => ∃ v0_ : Value, e = .returned (.tuple #[v0_, .bool r2]) ∧ Kd.R (Kd.int .i64) 3 w' w.heap.size (fun _ => True) v0_ r1 ∧ Below w.heap.size w w' := by
  have HR0 := Aside0.mk hr0
  have HC0 := Aside0.mk hc0
  clear hr0 hc0
  have HB := Aside0.mk (Below.refl w.heap.size w)
  have H : ((impl_bestPlans.f k l0 a1).bind fun bt146 => (some (bt146.2.1, bt146.2.2.2))) = some (r1, r2) := h
  clear h
  replace H := Option.bind_eq_some_iff.mp H
  obtain ⟨⟨t146, t147, t148, t149⟩, A30, H⟩ := H
  replace H : (some (t147, t149)) = some (r1, r2) := H
  have A3 := Aside0.mk A30
  clear A30
  simp only [Option.some.injEq, Prod.mk.injEq] at H
  obtain ⟨rfl, rfl⟩ := H
  go_enter Try.func24, Try.ntmps24
  go_wp2_with (first | ((with_reducible refine gate_callee (f := 35) rfl ?_); refine goesL_ (some 13) rfl rfl Try.func35 (by kernel_rfl) rfl #[.slice A0 l0.length c0, .int .i64 a1] rfl (by (try simp only [List.map_toArray, List.map_cons, List.map_nil]); first | done | rfl | (simp only [List.length_drop, List.length_take]; rfl)) ?_; (with_reducible refine (impl_bestPlans.calls k _ _ l0 a1 t146 t147 t148 t149 _ ?side1 ?side2 A3.out).mono ?_); (case side1 => repeat (first | exact HR0.out | (with_reducible refine Kd.C_alloc ?_ _) | (with_reducible refine Kd.C_drewN ?_ _) | (with_reducible refine Kd.C_drew ?_))); (case side2 => exact HC0.out); rintro e w4 ⟨v150, rfl, ho0, hb⟩; refine ⟨_, rfl, ?_⟩; have n0_ := Aside0.mk (Kd.R_lower ho0 (below_size (by repeat (first | (with_reducible first | exact HB.out | apply below_alloc | apply pw_below_drewN | apply below_drew1) | exact HB.out)))); have n1_ := Aside0.mk (below_step (by repeat (first | (with_reducible first | exact HB.out | apply below_alloc | apply pw_below_drewN | apply below_drew1) | exact HB.out)) hb); clear HB; have HO151 := n0_; have HB := n1_; clear n0_ n1_; (try clear hb); (try clear hb2); (try clear hk); (try clear hi); (try clear ho0)))
  go_ret2
  exact ⟨_, by first | rfl | (simp [errW_none, errW_some] <;> rfl) | (simp [*, errW_none, errW_some] <;> rfl), by (with_reducible repeat (first | apply Kd.R_alloc | apply Kd.R_drewN | apply Kd.R_drew)); exact HO151.out, by repeat (first | (with_reducible first | exact HB.out | apply below_alloc | apply pw_below_drewN | apply below_drew1) | exact HB.out)⟩

/-! ### laws_FnExactFirstBestPlan: function 8 -/
mutual
def laws_FnExactFirstBestPlan.j0 : Nat → List Int → Int → List Int → Bool → List Int → List Int → Bool → Bool → Option (Bool)
  | 0, _, _, _, _, _, _, _, _ => none
  | k + 1, x0, x1, x5, x6, x7, x8, x9, x41 => if x41 = true then (some false) else ((laws_toIntS.f k x0).bind fun t167 => ((laws_eqIntS.f k x7 t167).bind fun t170 => (if t170 = true then ((laws_markIntS.f k x7 1).bind fun bt171 => (if bt171.1 < 0 then (laws_FnExactFirstBestPlan.j1 k x0 x1 x5 x6 x8 true) else ((laws_eqIntS.f k x8 x5).bind fun t173 => (if t173 = true then (laws_FnExactFirstBestPlan.j1 k x0 x1 x5 x6 x8 (x9 != x6)) else (laws_FnExactFirstBestPlan.j1 k x0 x1 x5 x6 x8 true))))) else (some false))))
def laws_FnExactFirstBestPlan.j1 : Nat → List Int → Int → List Int → Bool → List Int → Bool → Option (Bool)
  | 0, _, _, _, _, _, _ => none
  | k + 1, x0, x1, x5, x6, x8, x62 => if x62 = true then (some false) else ((laws_markIntS.f k x8 1).bind fun bt174 => ((laws_heldIntS.f k bt174.2 1).bind fun t176 => (if t176 < 0 then (some false) else (if t176 = bt174.1 then ((laws_toIntS.f k x0).bind fun t177 => ((impl_FirstBestPlan.f k t177 x1).bind fun bt180 => ((laws_eqIntS.f k bt180.1 x5).bind fun t184 => (if t184 = true then (laws_FnExactFirstBestPlan.j2 k bt174.2 bt174.1 (bt180.2 != x6)) else (laws_FnExactFirstBestPlan.j2 k bt174.2 bt174.1 true))))) else (some false)))))
def laws_FnExactFirstBestPlan.j2 : Nat → List Int → Int → Bool → Option (Bool)
  | 0, _, _, _ => none
  | k + 1, x8, x11, x89 => if x89 = true then (some false) else ((laws_heldIntS.f k x8 1).bind fun t185 => (if t185 < 0 then (some false) else (if t185 = x11 then (some true) else (some false))))
end
def laws_FnExactFirstBestPlan.f (k : Nat) (l0 : List Int) (a1 : Int) : Option (Bool) := if (l0.length : Int) > 1048576 then (some true) else ((laws_toIntS.f k l0).bind fun t152 => ((spec_FirstBestPlan.f k t152 a1).bind fun bt155 => ((laws_toIntS.f k l0).bind fun t159 => ((impl_FirstBestPlan.f k t159 a1).bind fun bt162 => ((laws_eqIntS.f k bt162.1 bt155.1).bind fun t166 => (if t166 = true then (laws_FnExactFirstBestPlan.j0 k l0 a1 bt155.1 bt155.2 t159 bt162.1 bt162.2 (bt162.2 != bt155.2)) else (laws_FnExactFirstBestPlan.j0 k l0 a1 bt155.1 bt155.2 t159 bt162.1 bt162.2 true)))))))
theorem laws_FnExactFirstBestPlan.mono_l : ∀ k, (∀ y0 y1 y2 y3 y4 y5 y6 y7, LeO (laws_FnExactFirstBestPlan.j0 k y0 y1 y2 y3 y4 y5 y6 y7) (laws_FnExactFirstBestPlan.j0 (k + 1) y0 y1 y2 y3 y4 y5 y6 y7)) ∧ (∀ y0 y1 y2 y3 y4 y5, LeO (laws_FnExactFirstBestPlan.j1 k y0 y1 y2 y3 y4 y5) (laws_FnExactFirstBestPlan.j1 (k + 1) y0 y1 y2 y3 y4 y5)) ∧ (∀ y0 y1 y2, LeO (laws_FnExactFirstBestPlan.j2 k y0 y1 y2) (laws_FnExactFirstBestPlan.j2 (k + 1) y0 y1 y2))
  | 0 => ⟨fun _ _ _ _ _ _ _ _ r h => by simp [laws_FnExactFirstBestPlan.j0] at h, fun _ _ _ _ _ _ r h => by simp [laws_FnExactFirstBestPlan.j1] at h, fun _ _ _ r h => by simp [laws_FnExactFirstBestPlan.j2] at h⟩
  | k + 1 => by
    obtain ⟨ih0, ih1, ih2⟩ := laws_FnExactFirstBestPlan.mono_l k
    refine ⟨?_, ?_, ?_⟩
    · intro y0 y1 y2 y3 y4 y5 y6 y7
      unfold laws_FnExactFirstBestPlan.j0
      repeat' first
      | (with_reducible exact ih0 _ _ _ _ _ _ _ _)
      | (with_reducible exact ih1 _ _ _ _ _ _)
      | (with_reducible exact ih2 _ _ _)
      | (with_reducible exact impl_FirstBestPlan.mono _ _ _)
      | (with_reducible exact laws_eqIntS.mono _ _ _)
      | (with_reducible exact laws_heldIntS.mono _ _ _)
      | (with_reducible exact laws_markIntS.mono _ _ _)
      | (with_reducible exact laws_toIntS.mono _ _)
      | (with_reducible exact spec_FirstBestPlan.mono _ _ _)
      | (with_reducible exact LeO.refl _)
      | (with_reducible exact LeO.none _)
      | (with_reducible refine LeO.ite ?_ ?_)
      | (with_reducible refine LeO.bind ?_ (fun _ => ?_))
      | exact ih0 _ _ _ _ _ _ _ _
      | exact ih1 _ _ _ _ _ _
      | exact ih2 _ _ _
      | exact impl_FirstBestPlan.mono _ _ _
      | exact laws_eqIntS.mono _ _ _
      | exact laws_heldIntS.mono _ _ _
      | exact laws_markIntS.mono _ _ _
      | exact laws_toIntS.mono _ _
      | exact spec_FirstBestPlan.mono _ _ _
      | exact LeO.none _
      | refine LeO.ite ?_ ?_
      | refine LeO.bind ?_ (fun _ => ?_)
    · intro y0 y1 y2 y3 y4 y5
      unfold laws_FnExactFirstBestPlan.j1
      repeat' first
      | (with_reducible exact ih0 _ _ _ _ _ _ _ _)
      | (with_reducible exact ih1 _ _ _ _ _ _)
      | (with_reducible exact ih2 _ _ _)
      | (with_reducible exact impl_FirstBestPlan.mono _ _ _)
      | (with_reducible exact laws_eqIntS.mono _ _ _)
      | (with_reducible exact laws_heldIntS.mono _ _ _)
      | (with_reducible exact laws_markIntS.mono _ _ _)
      | (with_reducible exact laws_toIntS.mono _ _)
      | (with_reducible exact spec_FirstBestPlan.mono _ _ _)
      | (with_reducible exact LeO.refl _)
      | (with_reducible exact LeO.none _)
      | (with_reducible refine LeO.ite ?_ ?_)
      | (with_reducible refine LeO.bind ?_ (fun _ => ?_))
      | exact ih0 _ _ _ _ _ _ _ _
      | exact ih1 _ _ _ _ _ _
      | exact ih2 _ _ _
      | exact impl_FirstBestPlan.mono _ _ _
      | exact laws_eqIntS.mono _ _ _
      | exact laws_heldIntS.mono _ _ _
      | exact laws_markIntS.mono _ _ _
      | exact laws_toIntS.mono _ _
      | exact spec_FirstBestPlan.mono _ _ _
      | exact LeO.none _
      | refine LeO.ite ?_ ?_
      | refine LeO.bind ?_ (fun _ => ?_)
    · intro y0 y1 y2
      unfold laws_FnExactFirstBestPlan.j2
      repeat' first
      | (with_reducible exact ih0 _ _ _ _ _ _ _ _)
      | (with_reducible exact ih1 _ _ _ _ _ _)
      | (with_reducible exact ih2 _ _ _)
      | (with_reducible exact impl_FirstBestPlan.mono _ _ _)
      | (with_reducible exact laws_eqIntS.mono _ _ _)
      | (with_reducible exact laws_heldIntS.mono _ _ _)
      | (with_reducible exact laws_markIntS.mono _ _ _)
      | (with_reducible exact laws_toIntS.mono _ _)
      | (with_reducible exact spec_FirstBestPlan.mono _ _ _)
      | (with_reducible exact LeO.refl _)
      | (with_reducible exact LeO.none _)
      | (with_reducible refine LeO.ite ?_ ?_)
      | (with_reducible refine LeO.bind ?_ (fun _ => ?_))
      | exact ih0 _ _ _ _ _ _ _ _
      | exact ih1 _ _ _ _ _ _
      | exact ih2 _ _ _
      | exact impl_FirstBestPlan.mono _ _ _
      | exact laws_eqIntS.mono _ _ _
      | exact laws_heldIntS.mono _ _ _
      | exact laws_markIntS.mono _ _ _
      | exact laws_toIntS.mono _ _
      | exact spec_FirstBestPlan.mono _ _ _
      | exact LeO.none _
      | refine LeO.ite ?_ ?_
      | refine LeO.bind ?_ (fun _ => ?_)
theorem laws_FnExactFirstBestPlan.mono : ∀ a0 a1 k, LeO (laws_FnExactFirstBestPlan.f k a0 a1) (laws_FnExactFirstBestPlan.f (k + 1) a0 a1) := by
  intro a0 a1 k
  obtain ⟨ih0, ih1, ih2⟩ := laws_FnExactFirstBestPlan.mono_l k
  unfold laws_FnExactFirstBestPlan.f
  repeat' first
      | (with_reducible exact ih0 _ _ _ _ _ _ _ _)
      | (with_reducible exact ih1 _ _ _ _ _ _)
      | (with_reducible exact ih2 _ _ _)
      | (with_reducible exact impl_FirstBestPlan.mono _ _ _)
      | (with_reducible exact laws_eqIntS.mono _ _ _)
      | (with_reducible exact laws_heldIntS.mono _ _ _)
      | (with_reducible exact laws_markIntS.mono _ _ _)
      | (with_reducible exact laws_toIntS.mono _ _)
      | (with_reducible exact spec_FirstBestPlan.mono _ _ _)
      | (with_reducible exact LeO.refl _)
      | (with_reducible exact LeO.none _)
      | (with_reducible refine LeO.ite ?_ ?_)
      | (with_reducible refine LeO.bind ?_ (fun _ => ?_))
      | exact ih0 _ _ _ _ _ _ _ _
      | exact ih1 _ _ _ _ _ _
      | exact ih2 _ _ _
      | exact impl_FirstBestPlan.mono _ _ _
      | exact laws_eqIntS.mono _ _ _
      | exact laws_heldIntS.mono _ _ _
      | exact laws_markIntS.mono _ _ _
      | exact laws_toIntS.mono _ _
      | exact spec_FirstBestPlan.mono _ _ _
      | exact LeO.none _
      | refine LeO.ite ?_ ?_
      | refine LeO.bind ?_ (fun _ => ?_)
set_option maxHeartbeats 8000000 in
set_option maxRecDepth 100000 in
theorem laws_FnExactFirstBestPlan.calls (k : Nat) (A0 : Option Addr) (c0 : Nat) (l0 : List Int) (a1 : Int) (r : Bool) (w : World) (hr0 : Kd.C (Kd.int .i64) w A0 l0.length l0) (hc0 : l0.length ≤ c0) (h : laws_FnExactFirstBestPlan.f k l0 a1 = some r) :
    Calls Try.prog 8 #[.slice A0 l0.length c0, .int .i64 a1] w fun e w' => e = .returned (.bool r) ∧ Below w.heap.size w w' := by
  have HR0 := Aside0.mk hr0
  have HC0 := Aside0.mk hc0
  clear hr0 hc0
  have HB := Aside0.mk (Below.refl w.heap.size w)
  have H : (if (l0.length : Int) > 1048576 then (some true) else ((laws_toIntS.f k l0).bind fun t152 => ((spec_FirstBestPlan.f k t152 a1).bind fun bt155 => ((laws_toIntS.f k l0).bind fun t159 => ((impl_FirstBestPlan.f k t159 a1).bind fun bt162 => ((laws_eqIntS.f k bt162.1 bt155.1).bind fun t166 => (if t166 = true then (laws_FnExactFirstBestPlan.j0 k l0 a1 bt155.1 bt155.2 t159 bt162.1 bt162.2 (bt162.2 != bt155.2)) else (laws_FnExactFirstBestPlan.j0 k l0 a1 bt155.1 bt155.2 t159 bt162.1 bt162.2 true)))))))) = some r := h
  clear h
  by_cases c3 : (l0.length : Int) > 1048576
  · rw [if_pos c3] at H
    have c3b0 : decide (1048576 < (l0.length : Int)) = true := decide_eq_true c3
    have c3b1 : decide (1048576 < l0.length) = true := decide_eq_true (by omega)
    clear c3
    obtain rfl := Option.some.inj H
    go_enter Try.func8, Try.ntmps8
    go_wp2
    go_ret
    exact ⟨by first | rfl | (simp [errW_none, errW_some] <;> rfl) | (simp [*, errW_none, errW_some] <;> rfl), by repeat (first | (with_reducible first | exact HB.out | apply below_alloc | apply pw_below_drewN | apply below_drew1) | exact HB.out)⟩
  · rw [if_neg c3] at H
    have c3b0 : decide (1048576 < (l0.length : Int)) = false := decide_eq_false c3
    have c3b1 : decide (1048576 < l0.length) = false := decide_eq_false (by omega)
    clear c3
    replace H := Option.bind_eq_some_iff.mp H
    obtain ⟨t152, A40, H⟩ := H
    replace H : ((spec_FirstBestPlan.f k t152 a1).bind fun bt155 => ((laws_toIntS.f k l0).bind fun t159 => ((impl_FirstBestPlan.f k t159 a1).bind fun bt162 => ((laws_eqIntS.f k bt162.1 bt155.1).bind fun t166 => (if t166 = true then (laws_FnExactFirstBestPlan.j0 k l0 a1 bt155.1 bt155.2 t159 bt162.1 bt162.2 (bt162.2 != bt155.2)) else (laws_FnExactFirstBestPlan.j0 k l0 a1 bt155.1 bt155.2 t159 bt162.1 bt162.2 true)))))) = some r := H
    have A4 := Aside0.mk A40
    clear A40
    replace H := Option.bind_eq_some_iff.mp H
    obtain ⟨⟨t155, t156⟩, A50, H⟩ := H
    replace H : ((laws_toIntS.f k l0).bind fun t159 => ((impl_FirstBestPlan.f k t159 a1).bind fun bt162 => ((laws_eqIntS.f k bt162.1 t155).bind fun t166 => (if t166 = true then (laws_FnExactFirstBestPlan.j0 k l0 a1 t155 t156 t159 bt162.1 bt162.2 (bt162.2 != t156)) else (laws_FnExactFirstBestPlan.j0 k l0 a1 t155 t156 t159 bt162.1 bt162.2 true))))) = some r := H
    have A5 := Aside0.mk A50
    clear A50
    replace H := Option.bind_eq_some_iff.mp H
    obtain ⟨t159, A60, H⟩ := H
    replace H : ((impl_FirstBestPlan.f k t159 a1).bind fun bt162 => ((laws_eqIntS.f k bt162.1 t155).bind fun t166 => (if t166 = true then (laws_FnExactFirstBestPlan.j0 k l0 a1 t155 t156 t159 bt162.1 bt162.2 (bt162.2 != t156)) else (laws_FnExactFirstBestPlan.j0 k l0 a1 t155 t156 t159 bt162.1 bt162.2 true)))) = some r := H
    have A6 := Aside0.mk A60
    clear A60
    replace H := Option.bind_eq_some_iff.mp H
    obtain ⟨⟨t162, t163⟩, A70, H⟩ := H
    replace H : ((laws_eqIntS.f k t162 t155).bind fun t166 => (if t166 = true then (laws_FnExactFirstBestPlan.j0 k l0 a1 t155 t156 t159 t162 t163 (t163 != t156)) else (laws_FnExactFirstBestPlan.j0 k l0 a1 t155 t156 t159 t162 t163 true))) = some r := H
    have A7 := Aside0.mk A70
    clear A70
    have HC8 := Aside0.mk H
    clear H
    go_enter Try.func8, Try.ntmps8
    go_upto_region 6 with (first | ((with_reducible refine gate_callee (f := 10) rfl ?_); refine goesL_ (some 20) rfl rfl Try.func10 (by kernel_rfl) rfl #[.slice A0 l0.length c0] rfl (by (try simp only [List.map_toArray, List.map_cons, List.map_nil]); first | done | rfl | (simp only [List.length_drop, List.length_take]; rfl)) ?_; (with_reducible refine (laws_toIntS.calls k _ _ l0 t152 _ ?side1 ?side2 A4.out).mono ?_); (case side1 => repeat (first | exact HR0.out | (with_reducible refine Kd.C_alloc ?_ _) | (with_reducible refine Kd.C_drewN ?_ _) | (with_reducible refine Kd.C_drew ?_))); (case side2 => exact HC0.out); rintro e w9 ⟨v153, rfl, ho0, hb⟩; refine ⟨_, rfl, ?_⟩; have n0_ := Aside0.mk (Kd.R_lower ho0 (below_size (by repeat (first | (with_reducible first | exact HB.out | apply below_alloc | apply pw_below_drewN | apply below_drew1) | exact HB.out)))); have n1_ := Aside0.mk (below_step (by repeat (first | (with_reducible first | exact HB.out | apply below_alloc | apply pw_below_drewN | apply below_drew1) | exact HB.out)) hb); clear HB; have HO154 := n0_; have HB := n1_; clear n0_ n1_; (try clear hb); (try clear hb2); (try clear hk); (try clear hi); (try clear ho0); obtain ⟨Ao10, co10, eo10⟩ := Kd.R_slice HO154.out; subst eo10) | ((with_reducible refine gate_callee (f := 23) rfl ?_); refine goesL_ (some 22) rfl rfl Try.func23 (by kernel_rfl) rfl #[.slice Ao10 t152.length co10, .int .i64 a1] rfl (by (try simp only [List.map_toArray, List.map_cons, List.map_nil]); first | done | rfl | (simp only [List.length_drop, List.length_take]; rfl)) ?_; (with_reducible refine (spec_FirstBestPlan.calls k _ _ t152 a1 t155 t156 _ ?side1 ?side2 A5.out).mono ?_); (case side1 => repeat (first | exact (Kd.R_reads' HO154.out).2.2 | (with_reducible refine Kd.C_alloc ?_ _) | (with_reducible refine Kd.C_drewN ?_ _) | (with_reducible refine Kd.C_drew ?_))); (case side2 => exact (Kd.R_reads' HO154.out).2.1); rintro e w11 ⟨v157, rfl, ho0, hb⟩; refine ⟨_, rfl, ?_⟩; have n0_ := Aside0.mk (Kd.R_elder' (by (with_reducible repeat (first | apply Kd.R_alloc | apply Kd.R_drewN | apply Kd.R_drew)); exact HO154.out) (Kd.R_base ho0) hb); have n1_ := Aside0.mk (Kd.R_lower (Kd.R_new' ho0 (Kd.R_lt (by (with_reducible repeat (first | apply Kd.R_alloc | apply Kd.R_drewN | apply Kd.R_drew)); exact HO154.out))) (below_size (by repeat (first | (with_reducible first | exact HB.out | apply below_alloc | apply pw_below_drewN | apply below_drew1) | exact HB.out)))); have n2_ := Aside0.mk (below_step (by repeat (first | (with_reducible first | exact HB.out | apply below_alloc | apply pw_below_drewN | apply below_drew1) | exact HB.out)) hb); clear HO154; clear HB; have HO154 := n0_; have HO158 := n1_; have HB := n2_; clear n0_ n1_ n2_; (try clear hb); (try clear hb2); (try clear hk); (try clear hi); (try clear ho0)) | ((with_reducible refine gate_callee (f := 10) rfl ?_); refine goesL_ (some 26) rfl rfl Try.func10 (by kernel_rfl) rfl #[.slice A0 l0.length c0] rfl (by (try simp only [List.map_toArray, List.map_cons, List.map_nil]); first | done | rfl | (simp only [List.length_drop, List.length_take]; rfl)) ?_; (with_reducible refine (laws_toIntS.calls k _ _ l0 t159 _ ?side1 ?side2 A6.out).mono ?_); (case side1 => repeat (first | exact (Kd.C_below HR0.out HB.out) | (with_reducible refine Kd.C_alloc ?_ _) | (with_reducible refine Kd.C_drewN ?_ _) | (with_reducible refine Kd.C_drew ?_))); (case side2 => exact HC0.out); rintro e w12 ⟨v160, rfl, ho0, hb⟩; refine ⟨_, rfl, ?_⟩; have n0_ := Aside0.mk (Kd.R_elder' (by (with_reducible repeat (first | apply Kd.R_alloc | apply Kd.R_drewN | apply Kd.R_drew)); exact HO154.out) (Kd.R_base ho0) hb); have n1_ := Aside0.mk (Kd.R_elder' (by (with_reducible repeat (first | apply Kd.R_alloc | apply Kd.R_drewN | apply Kd.R_drew)); exact HO158.out) (Kd.R_base ho0) hb); have n2_ := Aside0.mk (Kd.R_lower (Kd.R_new' (Kd.R_new' ho0 (Kd.R_lt (by (with_reducible repeat (first | apply Kd.R_alloc | apply Kd.R_drewN | apply Kd.R_drew)); exact HO154.out))) (Kd.R_lt (by (with_reducible repeat (first | apply Kd.R_alloc | apply Kd.R_drewN | apply Kd.R_drew)); exact HO158.out))) (below_size (by repeat (first | (with_reducible first | exact HB.out | apply below_alloc | apply pw_below_drewN | apply below_drew1) | exact HB.out)))); have n3_ := Aside0.mk (below_step (by repeat (first | (with_reducible first | exact HB.out | apply below_alloc | apply pw_below_drewN | apply below_drew1) | exact HB.out)) hb); clear HO154; clear HO158; clear HB; have HO154 := n0_; have HO158 := n1_; have HO161 := n2_; have HB := n3_; clear n0_ n1_ n2_ n3_; (try clear hb); (try clear hb2); (try clear hk); (try clear hi); (try clear ho0); obtain ⟨Ao13, co13, eo13⟩ := Kd.R_slice HO161.out; subst eo13) | ((with_reducible refine gate_callee (f := 24) rfl ?_); refine goesL_ (some 30) rfl rfl Try.func24 (by kernel_rfl) rfl #[.slice Ao13 t159.length co13, .int .i64 a1] rfl (by (try simp only [List.map_toArray, List.map_cons, List.map_nil]); first | done | rfl | (simp only [List.length_drop, List.length_take]; rfl)) ?_; (with_reducible refine (impl_FirstBestPlan.calls k _ _ t159 a1 t162 t163 _ ?side1 ?side2 A7.out).mono ?_); (case side1 => repeat (first | exact (Kd.R_reads' HO161.out).2.2 | (with_reducible refine Kd.C_alloc ?_ _) | (with_reducible refine Kd.C_drewN ?_ _) | (with_reducible refine Kd.C_drew ?_))); (case side2 => exact (Kd.R_reads' HO161.out).2.1); rintro e w14 ⟨v164, rfl, ho0, hb⟩; refine ⟨_, rfl, ?_⟩; have n0_ := Aside0.mk (Kd.R_elder' (by (with_reducible repeat (first | apply Kd.R_alloc | apply Kd.R_drewN | apply Kd.R_drew)); exact HO154.out) (Kd.R_base ho0) hb); have n1_ := Aside0.mk (Kd.R_elder' (by (with_reducible repeat (first | apply Kd.R_alloc | apply Kd.R_drewN | apply Kd.R_drew)); exact HO158.out) (Kd.R_base ho0) hb); have n2_ := Aside0.mk (Kd.R_elder' (by (with_reducible repeat (first | apply Kd.R_alloc | apply Kd.R_drewN | apply Kd.R_drew)); exact HO161.out) (Kd.R_base ho0) hb); have n3_ := Aside0.mk (Kd.R_lower (Kd.R_new' (Kd.R_new' (Kd.R_new' ho0 (Kd.R_lt (by (with_reducible repeat (first | apply Kd.R_alloc | apply Kd.R_drewN | apply Kd.R_drew)); exact HO154.out))) (Kd.R_lt (by (with_reducible repeat (first | apply Kd.R_alloc | apply Kd.R_drewN | apply Kd.R_drew)); exact HO158.out))) (Kd.R_lt (by (with_reducible repeat (first | apply Kd.R_alloc | apply Kd.R_drewN | apply Kd.R_drew)); exact HO161.out))) (below_size (by repeat (first | (with_reducible first | exact HB.out | apply below_alloc | apply pw_below_drewN | apply below_drew1) | exact HB.out)))); have n4_ := Aside0.mk (below_step (by repeat (first | (with_reducible first | exact HB.out | apply below_alloc | apply pw_below_drewN | apply below_drew1) | exact HB.out)) hb); clear HO154; clear HO158; clear HO161; clear HB; have HO154 := n0_; have HO158 := n1_; have HO161 := n2_; have HO165 := n3_; have HB := n4_; clear n0_ n1_ n2_ n3_ n4_; (try clear hb); (try clear hb2); (try clear hk); (try clear hi); (try clear ho0)))
    (try simp only [Act.put, List.setIfInBounds_toArray, List.set_cons_zero, List.set_cons_succ])
    go_cut [41] (fun v41 wc => ∃ (kq : Nat) (x41_7 : Bool), v41 = .bool x41_7 ∧ Aside0 (laws_FnExactFirstBestPlan.j0 kq l0 a1 t155 t156 t159 t162 t163 x41_7 = some r) ∧ Aside0 (kq ≤ k) ∧ Aside0 (Kd.R (Kd.int .i64) 3 wc w.heap.size (fun k_ => some k_ ≠ ((.slice Ao13 t159.length co13) : Value).ownBlock ∧ some k_ ≠ (v164 : Value).ownBlock) v157 t155) ∧ Aside0 (Kd.R (Kd.int .i64) 3 wc w.heap.size (fun k_ => some k_ ≠ (v157 : Value).ownBlock ∧ some k_ ≠ (v164 : Value).ownBlock) (.slice Ao13 t159.length co13) t159) ∧ Aside0 (Kd.R (Kd.int .i64) 3 wc w.heap.size (fun k_ => some k_ ≠ (v157 : Value).ownBlock ∧ some k_ ≠ ((.slice Ao13 t159.length co13) : Value).ownBlock) v164 t162) ∧ Aside0 (Below w.heap.size w wc))
    case first =>
      have H := HC8.out
      clear HC8
      replace H := Option.bind_eq_some_iff.mp H
      obtain ⟨t166, A150, H⟩ := H
      replace H : (if t166 = true then (laws_FnExactFirstBestPlan.j0 k l0 a1 t155 t156 t159 t162 t163 (t163 != t156)) else (laws_FnExactFirstBestPlan.j0 k l0 a1 t155 t156 t159 t162 t163 true)) = some r := H
      have A15 := Aside0.mk A150
      clear A150
      by_cases c16 : t166 = true
      · subst c16
        have H1 : (laws_FnExactFirstBestPlan.j0 k l0 a1 t155 t156 t159 t162 t163 (t163 != t156)) = some r := by rw [if_pos rfl] at H; exact H
        clear H
        have H := H1
        clear H1
        have H' := Aside0.mk H
        clear H
        obtain ⟨Ao17, co17, eo17⟩ := Kd.R_slice HO165.out
        subst eo17
        obtain ⟨Ao18, co18, eo18⟩ := Kd.R_slice HO158.out
        subst eo18
        go_wp2_with (first | ((with_reducible refine gate_callee (f := 12) rfl ?_); refine goesL_ (some 35) rfl rfl Try.func12 (by kernel_rfl) rfl #[.slice Ao17 t162.length co17, .slice Ao18 t155.length co18] rfl (by (try simp only [List.map_toArray, List.map_cons, List.map_nil]); first | done | rfl | (simp only [List.length_drop, List.length_take]; rfl)) ?_; (with_reducible refine (laws_eqIntS.calls k _ _ t162 _ _ t155 true _ ?side1 ?side2 ?side3 ?side4 A15.out).mono ?_); (case side1 => repeat (first | exact (Kd.R_reads' HO165.out).2.2 | (with_reducible refine Kd.C_alloc ?_ _) | (with_reducible refine Kd.C_drewN ?_ _) | (with_reducible refine Kd.C_drew ?_))); (case side2 => exact (Kd.R_reads' HO165.out).2.1); (case side3 => repeat (first | exact (Kd.R_reads' HO158.out).2.2 | (with_reducible refine Kd.C_alloc ?_ _) | (with_reducible refine Kd.C_drewN ?_ _) | (with_reducible refine Kd.C_drew ?_))); (case side4 => exact (Kd.R_reads' HO158.out).2.1); rintro e w' ⟨rfl, ⟨nd, rfl⟩⟩; refine ⟨_, rfl, ?_⟩))
        go_meet
        case rel => exact ⟨_, ((t163 != t156)), (by first | rfl | (simp; done) | (simp [*]; done)), H', ⟨by first | omega | exact Nat.le_refl _⟩, ⟨by (with_reducible repeat (first | apply Kd.R_alloc | apply Kd.R_drewN | apply Kd.R_drew)); exact Kd.R_mono HO158.out (fun _ hk => ⟨hk.1.2, hk.2⟩)⟩, ⟨by (with_reducible repeat (first | apply Kd.R_alloc | apply Kd.R_drewN | apply Kd.R_drew)); exact Kd.R_mono HO161.out (fun _ hk => ⟨hk.1.2, hk.2⟩)⟩, ⟨by (with_reducible repeat (first | apply Kd.R_alloc | apply Kd.R_drewN | apply Kd.R_drew)); exact Kd.R_mono HO165.out (fun _ hk => ⟨hk.1.2, hk.2⟩)⟩, ⟨by repeat (first | (with_reducible first | exact HB.out | apply below_alloc | apply pw_below_drewN | apply below_drew1) | exact HB.out)⟩⟩
      · replace c16 := Bool.eq_false_iff.mpr c16
        subst c16
        have H1 : (laws_FnExactFirstBestPlan.j0 k l0 a1 t155 t156 t159 t162 t163 true) = some r := by rw [if_neg (show ¬ (false = true) by decide)] at H; exact H
        clear H
        have H := H1
        clear H1
        have H' := Aside0.mk H
        clear H
        obtain ⟨Ao19, co19, eo19⟩ := Kd.R_slice HO165.out
        subst eo19
        obtain ⟨Ao20, co20, eo20⟩ := Kd.R_slice HO158.out
        subst eo20
        go_wp2_with (first | ((with_reducible refine gate_callee (f := 12) rfl ?_); refine goesL_ (some 35) rfl rfl Try.func12 (by kernel_rfl) rfl #[.slice Ao19 t162.length co19, .slice Ao20 t155.length co20] rfl (by (try simp only [List.map_toArray, List.map_cons, List.map_nil]); first | done | rfl | (simp only [List.length_drop, List.length_take]; rfl)) ?_; (with_reducible refine (laws_eqIntS.calls k _ _ t162 _ _ t155 false _ ?side1 ?side2 ?side3 ?side4 A15.out).mono ?_); (case side1 => repeat (first | exact (Kd.R_reads' HO165.out).2.2 | (with_reducible refine Kd.C_alloc ?_ _) | (with_reducible refine Kd.C_drewN ?_ _) | (with_reducible refine Kd.C_drew ?_))); (case side2 => exact (Kd.R_reads' HO165.out).2.1); (case side3 => repeat (first | exact (Kd.R_reads' HO158.out).2.2 | (with_reducible refine Kd.C_alloc ?_ _) | (with_reducible refine Kd.C_drewN ?_ _) | (with_reducible refine Kd.C_drew ?_))); (case side4 => exact (Kd.R_reads' HO158.out).2.1); rintro e w' ⟨rfl, ⟨nd, rfl⟩⟩; refine ⟨_, rfl, ?_⟩))
        go_meet
        case rel => exact ⟨_, (true), (by first | rfl | (simp; done) | (simp [*]; done)), H', ⟨by first | omega | exact Nat.le_refl _⟩, ⟨by (with_reducible repeat (first | apply Kd.R_alloc | apply Kd.R_drewN | apply Kd.R_drew)); exact Kd.R_mono HO158.out (fun _ hk => ⟨hk.1.2, hk.2⟩)⟩, ⟨by (with_reducible repeat (first | apply Kd.R_alloc | apply Kd.R_drewN | apply Kd.R_drew)); exact Kd.R_mono HO161.out (fun _ hk => ⟨hk.1.2, hk.2⟩)⟩, ⟨by (with_reducible repeat (first | apply Kd.R_alloc | apply Kd.R_drewN | apply Kd.R_drew)); exact Kd.R_mono HO165.out (fun _ hk => ⟨hk.1.2, hk.2⟩)⟩, ⟨by repeat (first | (with_reducible first | exact HB.out | apply below_alloc | apply pw_below_drewN | apply below_drew1) | exact HB.out)⟩⟩
    case rest =>
      clear HC8
      try clear c1
      try clear c2
      try clear p2
      try clear c3
      try clear c3b0
      try clear c3b1
      try clear c8
      try clear c10
      try clear c12
      try clear c16
      obtain ⟨kq, x41_7, rfl, HA, HJ7, HO_5, HO_7, HO_8, HB⟩ := hcut
      cases kq with
      | zero => exact absurd HA.out (by simp [laws_FnExactFirstBestPlan.j0])
      | succ kj7 =>
        have H := HA.out
        clear HA
        simp only [laws_FnExactFirstBestPlan.j0] at H
        by_cases c21 : x41_7 = true
        · subst c21
          have H1 : (some false) = some r := by rw [if_pos rfl] at H; exact H
          clear H
          have H := H1
          clear H1
          obtain rfl := Option.some.inj H
          go_wp2
          go_ret
          exact ⟨by first | rfl | (simp [errW_none, errW_some] <;> rfl) | (simp [*, errW_none, errW_some] <;> rfl), by repeat (first | (with_reducible first | exact HB.out | apply below_alloc | apply pw_below_drewN | apply below_drew1) | exact HB.out)⟩
        · replace c21 := Bool.eq_false_iff.mpr c21
          subst c21
          have H1 : ((laws_toIntS.f kj7 l0).bind fun t167 => ((laws_eqIntS.f kj7 t159 t167).bind fun t170 => (if t170 = true then ((laws_markIntS.f kj7 t159 1).bind fun bt171 => (if bt171.1 < 0 then (laws_FnExactFirstBestPlan.j1 kj7 l0 a1 t155 t156 t162 true) else ((laws_eqIntS.f kj7 t162 t155).bind fun t173 => (if t173 = true then (laws_FnExactFirstBestPlan.j1 kj7 l0 a1 t155 t156 t162 (t163 != t156)) else (laws_FnExactFirstBestPlan.j1 kj7 l0 a1 t155 t156 t162 true))))) else (some false)))) = some r := by rw [if_neg (show ¬ (false = true) by decide)] at H; exact H
          clear H
          have H := H1
          clear H1
          replace H := Option.bind_eq_some_iff.mp H
          obtain ⟨t167, A220, H⟩ := H
          replace H : ((laws_eqIntS.f kj7 t159 t167).bind fun t170 => (if t170 = true then ((laws_markIntS.f kj7 t159 1).bind fun bt171 => (if bt171.1 < 0 then (laws_FnExactFirstBestPlan.j1 kj7 l0 a1 t155 t156 t162 true) else ((laws_eqIntS.f kj7 t162 t155).bind fun t173 => (if t173 = true then (laws_FnExactFirstBestPlan.j1 kj7 l0 a1 t155 t156 t162 (t163 != t156)) else (laws_FnExactFirstBestPlan.j1 kj7 l0 a1 t155 t156 t162 true))))) else (some false))) = some r := H
          have A22 := Aside0.mk A220
          clear A220
          replace H := Option.bind_eq_some_iff.mp H
          obtain ⟨t170, A230, H⟩ := H
          replace H : (if t170 = true then ((laws_markIntS.f kj7 t159 1).bind fun bt171 => (if bt171.1 < 0 then (laws_FnExactFirstBestPlan.j1 kj7 l0 a1 t155 t156 t162 true) else ((laws_eqIntS.f kj7 t162 t155).bind fun t173 => (if t173 = true then (laws_FnExactFirstBestPlan.j1 kj7 l0 a1 t155 t156 t162 (t163 != t156)) else (laws_FnExactFirstBestPlan.j1 kj7 l0 a1 t155 t156 t162 true))))) else (some false)) = some r := H
          have A23 := Aside0.mk A230
          clear A230
          by_cases c24 : t170 = true
          · subst c24
            have H1 : ((laws_markIntS.f kj7 t159 1).bind fun bt171 => (if bt171.1 < 0 then (laws_FnExactFirstBestPlan.j1 kj7 l0 a1 t155 t156 t162 true) else ((laws_eqIntS.f kj7 t162 t155).bind fun t173 => (if t173 = true then (laws_FnExactFirstBestPlan.j1 kj7 l0 a1 t155 t156 t162 (t163 != t156)) else (laws_FnExactFirstBestPlan.j1 kj7 l0 a1 t155 t156 t162 true))))) = some r := by rw [if_pos rfl] at H; exact H
            clear H
            have H := H1
            clear H1
            replace H := Option.bind_eq_some_iff.mp H
            obtain ⟨⟨t171, t172⟩, A250, H⟩ := H
            replace H : (if t171 < 0 then (laws_FnExactFirstBestPlan.j1 kj7 l0 a1 t155 t156 t162 true) else ((laws_eqIntS.f kj7 t162 t155).bind fun t173 => (if t173 = true then (laws_FnExactFirstBestPlan.j1 kj7 l0 a1 t155 t156 t162 (t163 != t156)) else (laws_FnExactFirstBestPlan.j1 kj7 l0 a1 t155 t156 t162 true)))) = some r := H
            have A25 := Aside0.mk A250
            clear A250
            have HC26 := Aside0.mk H
            clear H
            go_upto_region 12 with (first | ((with_reducible refine gate_callee (f := 10) rfl ?_); refine goesL_ (some 44) rfl rfl Try.func10 (by kernel_rfl) rfl #[.slice A0 l0.length c0] rfl (by (try simp only [List.map_toArray, List.map_cons, List.map_nil]); first | done | rfl | (simp only [List.length_drop, List.length_take]; rfl)) ?_; (with_reducible refine (laws_toIntS.calls kj7 _ _ l0 t167 _ ?side1 ?side2 A22.out).mono ?_); (case side1 => repeat (first | exact (Kd.C_below HR0.out HB.out) | (with_reducible refine Kd.C_alloc ?_ _) | (with_reducible refine Kd.C_drewN ?_ _) | (with_reducible refine Kd.C_drew ?_))); (case side2 => exact HC0.out); rintro e w27 ⟨v168, rfl, ho0, hb⟩; refine ⟨_, rfl, ?_⟩; have n0_ := Aside0.mk (Kd.R_elder' (by (with_reducible repeat (first | apply Kd.R_alloc | apply Kd.R_drewN | apply Kd.R_drew)); exact HO_5.out) (Kd.R_base ho0) hb); have n1_ := Aside0.mk (Kd.R_elder' (by (with_reducible repeat (first | apply Kd.R_alloc | apply Kd.R_drewN | apply Kd.R_drew)); exact HO_7.out) (Kd.R_base ho0) hb); have n2_ := Aside0.mk (Kd.R_elder' (by (with_reducible repeat (first | apply Kd.R_alloc | apply Kd.R_drewN | apply Kd.R_drew)); exact HO_8.out) (Kd.R_base ho0) hb); have n3_ := Aside0.mk (Kd.R_lower (Kd.R_new' (Kd.R_new' (Kd.R_new' ho0 (Kd.R_lt (by (with_reducible repeat (first | apply Kd.R_alloc | apply Kd.R_drewN | apply Kd.R_drew)); exact HO_5.out))) (Kd.R_lt (by (with_reducible repeat (first | apply Kd.R_alloc | apply Kd.R_drewN | apply Kd.R_drew)); exact HO_7.out))) (Kd.R_lt (by (with_reducible repeat (first | apply Kd.R_alloc | apply Kd.R_drewN | apply Kd.R_drew)); exact HO_8.out))) (below_size (by repeat (first | (with_reducible first | exact HB.out | apply below_alloc | apply pw_below_drewN | apply below_drew1) | exact HB.out)))); have n4_ := Aside0.mk (below_step (by repeat (first | (with_reducible first | exact HB.out | apply below_alloc | apply pw_below_drewN | apply below_drew1) | exact HB.out)) hb); clear HO_5; clear HO_7; clear HO_8; clear HB; have HO_5 := n0_; have HO_7 := n1_; have HO_8 := n2_; have HO169 := n3_; have HB := n4_; clear n0_ n1_ n2_ n3_ n4_; (try clear hb); (try clear hb2); (try clear hk); (try clear hi); (try clear ho0); obtain ⟨Ao28, co28, eo28⟩ := Kd.R_slice HO169.out; subst eo28) | ((with_reducible refine gate_callee (f := 12) rfl ?_); refine goesL_ (some 45) rfl rfl Try.func12 (by kernel_rfl) rfl #[.slice Ao13 t159.length co13, .slice Ao28 t167.length co28] rfl (by (try simp only [List.map_toArray, List.map_cons, List.map_nil]); first | done | rfl | (simp only [List.length_drop, List.length_take]; rfl)) ?_; (with_reducible refine (laws_eqIntS.calls kj7 _ _ t159 _ _ t167 true _ ?side1 ?side2 ?side3 ?side4 A23.out).mono ?_); (case side1 => repeat (first | exact (Kd.R_reads' HO_7.out).2.2 | (with_reducible refine Kd.C_alloc ?_ _) | (with_reducible refine Kd.C_drewN ?_ _) | (with_reducible refine Kd.C_drew ?_))); (case side2 => exact (Kd.R_reads' HO_7.out).2.1); (case side3 => repeat (first | exact (Kd.R_reads' HO169.out).2.2 | (with_reducible refine Kd.C_alloc ?_ _) | (with_reducible refine Kd.C_drewN ?_ _) | (with_reducible refine Kd.C_drew ?_))); (case side4 => exact (Kd.R_reads' HO169.out).2.1); rintro e w' ⟨rfl, ⟨nd, rfl⟩⟩; refine ⟨_, rfl, ?_⟩) | ((with_reducible refine gate_callee (f := 13) rfl ?_); refine goesL_ (some 49) rfl rfl Try.func13 (by kernel_rfl) rfl #[.slice Ao13 t159.length co13, .int .i64 1] rfl (by (try simp only [List.map_toArray, List.map_cons, List.map_nil]); first | done | rfl | (simp only [List.length_drop, List.length_take]; rfl)) ?_; (with_reducible refine (laws_markIntS.calls kj7 (fun k_ => some k_ = (.slice Ao13 t159.length co13 : Value).ownBlock) (.slice Ao13 t159.length co13) t159 1 t171 t172 w _ ?side1 ?side2 A25.out).mono ?_); (case side1 => repeat (first | (with_reducible first | exact HB.out | apply below_alloc | apply pw_below_drewN | apply below_drew1) | exact HB.out)); (case side2 => exact Kd.R_tight rfl HO_7.out); rintro e w29 ⟨rfl, hy0, hb, hkp⟩; refine ⟨_, rfl, ?_⟩; have n0_ := Aside0.mk (Kd.R_mono (ok' := fun k_ => some k_ ≠ (.slice Ao13 t159.length co13 : Value).ownBlock ∧ some k_ ≠ (v164 : Value).ownBlock ∧ some k_ ≠ (.slice Ao28 t167.length co28 : Value).ownBlock) (Kd.R_keptB (HO_5.out) hkp (fun k_ hk_ hs_ => (hk_.1.1) hs_)) (fun k_ hk_ => ⟨hk_.1.1.1, hk_.1.1.2, hk_.1.2⟩)); have n1_ := Aside0.mk (Kd.R_reok rfl hy0 (fun k_ e_ => HO_7.out.1 k_ e_)); have n2_ := Aside0.mk (Kd.R_mono (ok' := fun k_ => some k_ ≠ (v157 : Value).ownBlock ∧ some k_ ≠ (.slice Ao13 t159.length co13 : Value).ownBlock ∧ some k_ ≠ (.slice Ao28 t167.length co28 : Value).ownBlock) (Kd.R_keptB (HO_8.out) hkp (fun k_ hk_ hs_ => (hk_.1.2) hs_)) (fun k_ hk_ => ⟨hk_.1.1.1, hk_.1.1.2, hk_.1.2⟩)); have n3_ := Aside0.mk (Kd.R_mono (ok' := fun k_ => some k_ ≠ (v157 : Value).ownBlock ∧ some k_ ≠ (.slice Ao13 t159.length co13 : Value).ownBlock ∧ some k_ ≠ (v164 : Value).ownBlock) (Kd.R_keptB (HO169.out) hkp (fun k_ hk_ hs_ => (hk_.1.2) hs_)) (fun k_ hk_ => ⟨hk_.1.1.1.2, hk_.1.1.2, hk_.1.2⟩)); have n4_ := Aside0.mk (hb); clear HO_5; clear HO_7; clear HO_8; clear HO169; clear HB; have HO_5 := n0_; have HO_7 := n1_; have HO_8 := n2_; have HO169 := n3_; have HB := n4_; clear n0_ n1_ n2_ n3_ n4_; (try clear hb); (try clear hkp); (try clear hy0)))
            (try simp only [Act.put, List.setIfInBounds_toArray, List.set_cons_zero, List.set_cons_succ])
            go_cut [62] (fun v62 wc => ∃ (kq : Nat) (x62_25 : Bool), v62 = .bool x62_25 ∧ Aside0 (laws_FnExactFirstBestPlan.j1 kq l0 a1 t155 t156 t162 x62_25 = some r) ∧ Aside0 (kq ≤ kj7) ∧ Aside0 (Kd.R (Kd.int .i64) 3 wc w.heap.size (fun k_ => some k_ ≠ (v164 : Value).ownBlock) v157 t155) ∧ Aside0 (Kd.R (Kd.int .i64) 3 wc w.heap.size (fun k_ => some k_ ≠ (v157 : Value).ownBlock) v164 t162) ∧ Aside0 (Below w.heap.size w wc))
            case first =>
              have H := HC26.out
              clear HC26
              by_cases c30 : t171 < 0
              · rw [if_pos c30] at H
                have c30b0 : decide (t171 < 0) = true := decide_eq_true c30
                clear c30
                (first | rw [c30b0] | (simp only [i64_w, i32_w]; rw [c30b0]) | skip)
                have H' := Aside0.mk H
                clear H
                go_wp2
                go_meet
                case rel => exact ⟨_, (true), (by first | rfl | (simp; done) | (simp [*]; done)), H', ⟨by have := HJ7.out; first | omega | exact Nat.le_refl _⟩, ⟨by (with_reducible repeat (first | apply Kd.R_alloc | apply Kd.R_drewN | apply Kd.R_drew)); exact Kd.R_mono HO_5.out (fun _ hk => hk.2.1)⟩, ⟨by (with_reducible repeat (first | apply Kd.R_alloc | apply Kd.R_drewN | apply Kd.R_drew)); exact Kd.R_mono HO_8.out (fun _ hk => hk.1)⟩, ⟨by repeat (first | (with_reducible first | exact HB.out | apply below_alloc | apply pw_below_drewN | apply below_drew1) | exact HB.out)⟩⟩
              · rw [if_neg c30] at H
                have c30b0 : decide (t171 < 0) = false := decide_eq_false c30
                clear c30
                (first | rw [c30b0] | (simp only [i64_w, i32_w]; rw [c30b0]) | skip)
                replace H := Option.bind_eq_some_iff.mp H
                obtain ⟨t173, A310, H⟩ := H
                replace H : (if t173 = true then (laws_FnExactFirstBestPlan.j1 kj7 l0 a1 t155 t156 t162 (t163 != t156)) else (laws_FnExactFirstBestPlan.j1 kj7 l0 a1 t155 t156 t162 true)) = some r := H
                have A31 := Aside0.mk A310
                clear A310
                by_cases c32 : t173 = true
                · subst c32
                  have H1 : (laws_FnExactFirstBestPlan.j1 kj7 l0 a1 t155 t156 t162 (t163 != t156)) = some r := by rw [if_pos rfl] at H; exact H
                  clear H
                  have H := H1
                  clear H1
                  have H' := Aside0.mk H
                  clear H
                  obtain ⟨Ao33, co33, eo33⟩ := Kd.R_slice HO_8.out
                  subst eo33
                  obtain ⟨Ao34, co34, eo34⟩ := Kd.R_slice HO_5.out
                  subst eo34
                  go_wp2_with (first | (go_at_call 12; (with_reducible refine (laws_eqIntS.calls kj7 _ _ t162 _ _ t155 true _ ?side1 ?side2 ?side3 ?side4 A31.out).mono ?_); (case side1 => repeat (first | exact (Kd.R_reads' HO_8.out).2.2 | (with_reducible refine Kd.C_alloc ?_ _) | (with_reducible refine Kd.C_drewN ?_ _) | (with_reducible refine Kd.C_drew ?_))); (case side2 => exact (Kd.R_reads' HO_8.out).2.1); (case side3 => repeat (first | exact (Kd.R_reads' HO_5.out).2.2 | (with_reducible refine Kd.C_alloc ?_ _) | (with_reducible refine Kd.C_drewN ?_ _) | (with_reducible refine Kd.C_drew ?_))); (case side4 => exact (Kd.R_reads' HO_5.out).2.1); rintro e w' ⟨rfl, ⟨nd, rfl⟩⟩))
                  go_meet
                  case rel => exact ⟨_, ((t163 != t156)), (by first | rfl | (simp; done) | (simp [*]; done)), H', ⟨by have := HJ7.out; first | omega | exact Nat.le_refl _⟩, ⟨by (with_reducible repeat (first | apply Kd.R_alloc | apply Kd.R_drewN | apply Kd.R_drew)); exact Kd.R_mono HO_5.out (fun _ hk => hk.2.1)⟩, ⟨by (with_reducible repeat (first | apply Kd.R_alloc | apply Kd.R_drewN | apply Kd.R_drew)); exact Kd.R_mono HO_8.out (fun _ hk => hk.1)⟩, ⟨by repeat (first | (with_reducible first | exact HB.out | apply below_alloc | apply pw_below_drewN | apply below_drew1) | exact HB.out)⟩⟩
                · replace c32 := Bool.eq_false_iff.mpr c32
                  subst c32
                  have H1 : (laws_FnExactFirstBestPlan.j1 kj7 l0 a1 t155 t156 t162 true) = some r := by rw [if_neg (show ¬ (false = true) by decide)] at H; exact H
                  clear H
                  have H := H1
                  clear H1
                  have H' := Aside0.mk H
                  clear H
                  obtain ⟨Ao35, co35, eo35⟩ := Kd.R_slice HO_8.out
                  subst eo35
                  obtain ⟨Ao36, co36, eo36⟩ := Kd.R_slice HO_5.out
                  subst eo36
                  go_wp2_with (first | (go_at_call 12; (with_reducible refine (laws_eqIntS.calls kj7 _ _ t162 _ _ t155 false _ ?side1 ?side2 ?side3 ?side4 A31.out).mono ?_); (case side1 => repeat (first | exact (Kd.R_reads' HO_8.out).2.2 | (with_reducible refine Kd.C_alloc ?_ _) | (with_reducible refine Kd.C_drewN ?_ _) | (with_reducible refine Kd.C_drew ?_))); (case side2 => exact (Kd.R_reads' HO_8.out).2.1); (case side3 => repeat (first | exact (Kd.R_reads' HO_5.out).2.2 | (with_reducible refine Kd.C_alloc ?_ _) | (with_reducible refine Kd.C_drewN ?_ _) | (with_reducible refine Kd.C_drew ?_))); (case side4 => exact (Kd.R_reads' HO_5.out).2.1); rintro e w' ⟨rfl, ⟨nd, rfl⟩⟩))
                  go_meet
                  case rel => exact ⟨_, (true), (by first | rfl | (simp; done) | (simp [*]; done)), H', ⟨by have := HJ7.out; first | omega | exact Nat.le_refl _⟩, ⟨by (with_reducible repeat (first | apply Kd.R_alloc | apply Kd.R_drewN | apply Kd.R_drew)); exact Kd.R_mono HO_5.out (fun _ hk => hk.2.1)⟩, ⟨by (with_reducible repeat (first | apply Kd.R_alloc | apply Kd.R_drewN | apply Kd.R_drew)); exact Kd.R_mono HO_8.out (fun _ hk => hk.1)⟩, ⟨by repeat (first | (with_reducible first | exact HB.out | apply below_alloc | apply pw_below_drewN | apply below_drew1) | exact HB.out)⟩⟩
            case rest =>
              clear HC26
              try clear c1
              try clear c2
              try clear p2
              try clear c3
              try clear c3b0
              try clear c3b1
              try clear c8
              try clear c10
              try clear c12
              try clear c13
              try clear c16
              try clear c21
              try clear c23
              try clear c24
              try clear c30
              try clear c30b0
              try clear c32
              try clear p2
              obtain ⟨kq, x62_25, rfl, HA, HJ25, HO_5, HO_8, HB⟩ := hcut
              cases kq with
              | zero => exact absurd HA.out (by simp [laws_FnExactFirstBestPlan.j1])
              | succ kj25 =>
                have H := HA.out
                clear HA
                simp only [laws_FnExactFirstBestPlan.j1] at H
                by_cases c37 : x62_25 = true
                · subst c37
                  have H1 : (some false) = some r := by rw [if_pos rfl] at H; exact H
                  clear H
                  have H := H1
                  clear H1
                  obtain rfl := Option.some.inj H
                  go_wp2
                  go_ret
                  exact ⟨by first | rfl | (simp [errW_none, errW_some] <;> rfl) | (simp [*, errW_none, errW_some] <;> rfl), by repeat (first | (with_reducible first | exact HB.out | apply below_alloc | apply pw_below_drewN | apply below_drew1) | exact HB.out)⟩
                · replace c37 := Bool.eq_false_iff.mpr c37
                  subst c37
                  have H1 : ((laws_markIntS.f kj25 t162 1).bind fun bt174 => ((laws_heldIntS.f kj25 bt174.2 1).bind fun t176 => (if t176 < 0 then (some false) else (if t176 = bt174.1 then ((laws_toIntS.f kj25 l0).bind fun t177 => ((impl_FirstBestPlan.f kj25 t177 a1).bind fun bt180 => ((laws_eqIntS.f kj25 bt180.1 t155).bind fun t184 => (if t184 = true then (laws_FnExactFirstBestPlan.j2 kj25 bt174.2 bt174.1 (bt180.2 != t156)) else (laws_FnExactFirstBestPlan.j2 kj25 bt174.2 bt174.1 true))))) else (some false))))) = some r := by rw [if_neg (show ¬ (false = true) by decide)] at H; exact H
                  clear H
                  have H := H1
                  clear H1
                  replace H := Option.bind_eq_some_iff.mp H
                  obtain ⟨⟨t174, t175⟩, A380, H⟩ := H
                  replace H : ((laws_heldIntS.f kj25 t175 1).bind fun t176 => (if t176 < 0 then (some false) else (if t176 = t174 then ((laws_toIntS.f kj25 l0).bind fun t177 => ((impl_FirstBestPlan.f kj25 t177 a1).bind fun bt180 => ((laws_eqIntS.f kj25 bt180.1 t155).bind fun t184 => (if t184 = true then (laws_FnExactFirstBestPlan.j2 kj25 t175 t174 (bt180.2 != t156)) else (laws_FnExactFirstBestPlan.j2 kj25 t175 t174 true))))) else (some false)))) = some r := H
                  have A38 := Aside0.mk A380
                  clear A380
                  replace H := Option.bind_eq_some_iff.mp H
                  obtain ⟨t176, A390, H⟩ := H
                  replace H : (if t176 < 0 then (some false) else (if t176 = t174 then ((laws_toIntS.f kj25 l0).bind fun t177 => ((impl_FirstBestPlan.f kj25 t177 a1).bind fun bt180 => ((laws_eqIntS.f kj25 bt180.1 t155).bind fun t184 => (if t184 = true then (laws_FnExactFirstBestPlan.j2 kj25 t175 t174 (bt180.2 != t156)) else (laws_FnExactFirstBestPlan.j2 kj25 t175 t174 true))))) else (some false))) = some r := H
                  have A39 := Aside0.mk A390
                  clear A390
                  by_cases c40 : t176 < 0
                  · rw [if_pos c40] at H
                    have c40b0 : decide (t176 < 0) = true := decide_eq_true c40
                    clear c40
                    obtain rfl := Option.some.inj H
                    obtain ⟨Ao41, co41, eo41⟩ := Kd.R_slice HO_8.out
                    subst eo41
                    go_wp2_with (first | ((with_reducible refine gate_callee (f := 13) rfl ?_); refine goesL_ (some 65) rfl rfl Try.func13 (by kernel_rfl) rfl #[.slice Ao41 t162.length co41, .int .i64 1] rfl (by (try simp only [List.map_toArray, List.map_cons, List.map_nil]); first | done | rfl | (simp only [List.length_drop, List.length_take]; rfl)) ?_; (with_reducible refine (laws_markIntS.calls kj25 (fun k_ => some k_ = (.slice Ao41 t162.length co41 : Value).ownBlock) (.slice Ao41 t162.length co41) t162 1 t174 t175 w _ ?side1 ?side2 A38.out).mono ?_); (case side1 => repeat (first | (with_reducible first | exact HB.out | apply below_alloc | apply pw_below_drewN | apply below_drew1) | exact HB.out)); (case side2 => exact Kd.R_tight rfl HO_8.out); rintro e w42 ⟨rfl, hy0, hb, hkp⟩; refine ⟨_, rfl, ?_⟩; have n0_ := Aside0.mk (Kd.R_mono (ok' := fun k_ => some k_ ≠ (.slice Ao41 t162.length co41 : Value).ownBlock) (Kd.R_keptB (HO_5.out) hkp (fun k_ hk_ hs_ => (hk_) hs_)) (fun k_ hk_ => hk_.1)); have n1_ := Aside0.mk (Kd.R_reok rfl hy0 (fun k_ e_ => HO_8.out.1 k_ e_)); have n2_ := Aside0.mk (hb); clear HO_5; clear HO_8; clear HB; have HO_5 := n0_; have HO_8 := n1_; have HB := n2_; clear n0_ n1_ n2_; (try clear hb); (try clear hkp); (try clear hy0)) | ((with_reducible refine gate_callee (f := 14) rfl ?_); refine goesL_ (some 68) rfl rfl Try.func14 (by kernel_rfl) rfl #[.slice Ao41 t175.length co41, .int .i64 1] rfl (by (try simp only [List.map_toArray, List.map_cons, List.map_nil]); first | done | (rw [show t175.length = t162.length from (Kd.R_reads' HO_8.out).1.symm] <;> rfl) | rfl | (simp only [List.length_drop, List.length_take]; rfl)) ?_; (with_reducible refine (laws_heldIntS.calls kj25 _ _ t175 1 t176 _ ?side1 ?side2 A39.out).mono ?_); (case side1 => repeat (first | exact (Kd.R_reads' HO_8.out).2.2 | (with_reducible refine Kd.C_alloc ?_ _) | (with_reducible refine Kd.C_drewN ?_ _) | (with_reducible refine Kd.C_drew ?_))); (case side2 => rw [show t175.length = t162.length from (Kd.R_reads' HO_8.out).1.symm]; exact (Kd.R_reads' HO_8.out).2.1); rintro e w' ⟨rfl, ⟨nd, rfl⟩⟩; refine ⟨_, rfl, ?_⟩))
                    go_ret
                    exact ⟨by first | rfl | (simp [errW_none, errW_some] <;> rfl) | (simp [*, errW_none, errW_some] <;> rfl), by repeat (first | (with_reducible first | exact HB.out | apply below_alloc | apply pw_below_drewN | apply below_drew1) | exact HB.out)⟩
                  · rw [if_neg c40] at H
                    have c40b0 : decide (t176 < 0) = false := decide_eq_false c40
                    clear c40
                    by_cases c43 : t176 = t174
                    · rw [if_pos c43] at H
                      have c43b0 : (t176 == t174) = true := beq_iff_eq.mpr c43
                      have c43b1 : (t176 != t174) = false := bne_eq_false_iff_eq.mpr c43
                      clear c43
                      replace H := Option.bind_eq_some_iff.mp H
                      obtain ⟨t177, A440, H⟩ := H
                      replace H : ((impl_FirstBestPlan.f kj25 t177 a1).bind fun bt180 => ((laws_eqIntS.f kj25 bt180.1 t155).bind fun t184 => (if t184 = true then (laws_FnExactFirstBestPlan.j2 kj25 t175 t174 (bt180.2 != t156)) else (laws_FnExactFirstBestPlan.j2 kj25 t175 t174 true)))) = some r := H
                      have A44 := Aside0.mk A440
                      clear A440
                      replace H := Option.bind_eq_some_iff.mp H
                      obtain ⟨⟨t180, t181⟩, A450, H⟩ := H
                      replace H : ((laws_eqIntS.f kj25 t180 t155).bind fun t184 => (if t184 = true then (laws_FnExactFirstBestPlan.j2 kj25 t175 t174 (t181 != t156)) else (laws_FnExactFirstBestPlan.j2 kj25 t175 t174 true))) = some r := H
                      have A45 := Aside0.mk A450
                      clear A450
                      have HC46 := Aside0.mk H
                      clear H
                      obtain ⟨Ao47, co47, eo47⟩ := Kd.R_slice HO_8.out
                      subst eo47
                      go_upto_region 23 with (first | ((with_reducible refine gate_callee (f := 13) rfl ?_); refine goesL_ (some 65) rfl rfl Try.func13 (by kernel_rfl) rfl #[.slice Ao47 t162.length co47, .int .i64 1] rfl (by (try simp only [List.map_toArray, List.map_cons, List.map_nil]); first | done | rfl | (simp only [List.length_drop, List.length_take]; rfl)) ?_; (with_reducible refine (laws_markIntS.calls kj25 (fun k_ => some k_ = (.slice Ao47 t162.length co47 : Value).ownBlock) (.slice Ao47 t162.length co47) t162 1 t174 t175 w _ ?side1 ?side2 A38.out).mono ?_); (case side1 => repeat (first | (with_reducible first | exact HB.out | apply below_alloc | apply pw_below_drewN | apply below_drew1) | exact HB.out)); (case side2 => exact Kd.R_tight rfl HO_8.out); rintro e w48 ⟨rfl, hy0, hb, hkp⟩; refine ⟨_, rfl, ?_⟩; have n0_ := Aside0.mk (Kd.R_mono (ok' := fun k_ => some k_ ≠ (.slice Ao47 t162.length co47 : Value).ownBlock) (Kd.R_keptB (HO_5.out) hkp (fun k_ hk_ hs_ => (hk_) hs_)) (fun k_ hk_ => hk_.1)); have n1_ := Aside0.mk (Kd.R_reok rfl hy0 (fun k_ e_ => HO_8.out.1 k_ e_)); have n2_ := Aside0.mk (hb); clear HO_5; clear HO_8; clear HB; have HO_5 := n0_; have HO_8 := n1_; have HB := n2_; clear n0_ n1_ n2_; (try clear hb); (try clear hkp); (try clear hy0)) | ((with_reducible refine gate_callee (f := 14) rfl ?_); refine goesL_ (some 68) rfl rfl Try.func14 (by kernel_rfl) rfl #[.slice Ao47 t175.length co47, .int .i64 1] rfl (by (try simp only [List.map_toArray, List.map_cons, List.map_nil]); first | done | (rw [show t175.length = t162.length from (Kd.R_reads' HO_8.out).1.symm] <;> rfl) | rfl | (simp only [List.length_drop, List.length_take]; rfl)) ?_; (with_reducible refine (laws_heldIntS.calls kj25 _ _ t175 1 t176 _ ?side1 ?side2 A39.out).mono ?_); (case side1 => repeat (first | exact (Kd.R_reads' HO_8.out).2.2 | (with_reducible refine Kd.C_alloc ?_ _) | (with_reducible refine Kd.C_drewN ?_ _) | (with_reducible refine Kd.C_drew ?_))); (case side2 => rw [show t175.length = t162.length from (Kd.R_reads' HO_8.out).1.symm]; exact (Kd.R_reads' HO_8.out).2.1); rintro e w' ⟨rfl, ⟨nd, rfl⟩⟩; refine ⟨_, rfl, ?_⟩) | ((with_reducible refine gate_callee (f := 10) rfl ?_); refine goesL_ (some 76) rfl rfl Try.func10 (by kernel_rfl) rfl #[.slice A0 l0.length c0] rfl (by (try simp only [List.map_toArray, List.map_cons, List.map_nil]); first | done | rfl | (simp only [List.length_drop, List.length_take]; rfl)) ?_; (with_reducible refine (laws_toIntS.calls kj25 _ _ l0 t177 _ ?side1 ?side2 A44.out).mono ?_); (case side1 => repeat (first | exact (Kd.C_below HR0.out (by repeat (first | (with_reducible first | exact HB.out | apply below_alloc | apply pw_below_drewN | apply below_drew1) | exact HB.out))) | (with_reducible refine Kd.C_alloc ?_ _) | (with_reducible refine Kd.C_drewN ?_ _) | (with_reducible refine Kd.C_drew ?_))); (case side2 => exact HC0.out); rintro e w49 ⟨v178, rfl, ho0, hb⟩; refine ⟨_, rfl, ?_⟩; have n0_ := Aside0.mk (Kd.R_elder' (by (with_reducible repeat (first | apply Kd.R_alloc | apply Kd.R_drewN | apply Kd.R_drew)); exact HO_5.out) (Kd.R_base ho0) hb); have n1_ := Aside0.mk (Kd.R_elder' (by (with_reducible repeat (first | apply Kd.R_alloc | apply Kd.R_drewN | apply Kd.R_drew)); exact HO_8.out) (Kd.R_base ho0) hb); have n2_ := Aside0.mk (Kd.R_lower (Kd.R_new' (Kd.R_new' ho0 (Kd.R_lt (by (with_reducible repeat (first | apply Kd.R_alloc | apply Kd.R_drewN | apply Kd.R_drew)); exact HO_5.out))) (Kd.R_lt (by (with_reducible repeat (first | apply Kd.R_alloc | apply Kd.R_drewN | apply Kd.R_drew)); exact HO_8.out))) (below_size (by repeat (first | (with_reducible first | exact HB.out | apply below_alloc | apply pw_below_drewN | apply below_drew1) | exact HB.out)))); have n3_ := Aside0.mk (below_step (by repeat (first | (with_reducible first | exact HB.out | apply below_alloc | apply pw_below_drewN | apply below_drew1) | exact HB.out)) hb); clear HO_5; clear HO_8; clear HB; have HO_5 := n0_; have HO_8 := n1_; have HO179 := n2_; have HB := n3_; clear n0_ n1_ n2_ n3_; (try clear hb); (try clear hb2); (try clear hk); (try clear hi); (try clear ho0); obtain ⟨Ao50, co50, eo50⟩ := Kd.R_slice HO179.out; subst eo50) | ((with_reducible refine gate_callee (f := 24) rfl ?_); refine goesL_ (some 78) rfl rfl Try.func24 (by kernel_rfl) rfl #[.slice Ao50 t177.length co50, .int .i64 a1] rfl (by (try simp only [List.map_toArray, List.map_cons, List.map_nil]); first | done | rfl | (simp only [List.length_drop, List.length_take]; rfl)) ?_; (with_reducible refine (impl_FirstBestPlan.calls kj25 _ _ t177 a1 t180 t181 _ ?side1 ?side2 A45.out).mono ?_); (case side1 => repeat (first | exact (Kd.R_reads' HO179.out).2.2 | (with_reducible refine Kd.C_alloc ?_ _) | (with_reducible refine Kd.C_drewN ?_ _) | (with_reducible refine Kd.C_drew ?_))); (case side2 => exact (Kd.R_reads' HO179.out).2.1); rintro e w51 ⟨v182, rfl, ho0, hb⟩; refine ⟨_, rfl, ?_⟩; have n0_ := Aside0.mk (Kd.R_elder' (by (with_reducible repeat (first | apply Kd.R_alloc | apply Kd.R_drewN | apply Kd.R_drew)); exact HO_5.out) (Kd.R_base ho0) hb); have n1_ := Aside0.mk (Kd.R_elder' (by (with_reducible repeat (first | apply Kd.R_alloc | apply Kd.R_drewN | apply Kd.R_drew)); exact HO_8.out) (Kd.R_base ho0) hb); have n2_ := Aside0.mk (Kd.R_elder' (by (with_reducible repeat (first | apply Kd.R_alloc | apply Kd.R_drewN | apply Kd.R_drew)); exact HO179.out) (Kd.R_base ho0) hb); have n3_ := Aside0.mk (Kd.R_lower (Kd.R_new' (Kd.R_new' (Kd.R_new' ho0 (Kd.R_lt (by (with_reducible repeat (first | apply Kd.R_alloc | apply Kd.R_drewN | apply Kd.R_drew)); exact HO_5.out))) (Kd.R_lt (by (with_reducible repeat (first | apply Kd.R_alloc | apply Kd.R_drewN | apply Kd.R_drew)); exact HO_8.out))) (Kd.R_lt (by (with_reducible repeat (first | apply Kd.R_alloc | apply Kd.R_drewN | apply Kd.R_drew)); exact HO179.out))) (below_size (by repeat (first | (with_reducible first | exact HB.out | apply below_alloc | apply pw_below_drewN | apply below_drew1) | exact HB.out)))); have n4_ := Aside0.mk (below_step (by repeat (first | (with_reducible first | exact HB.out | apply below_alloc | apply pw_below_drewN | apply below_drew1) | exact HB.out)) hb); clear HO_5; clear HO_8; clear HO179; clear HB; have HO_5 := n0_; have HO_8 := n1_; have HO179 := n2_; have HO183 := n3_; have HB := n4_; clear n0_ n1_ n2_ n3_ n4_; (try clear hb); (try clear hb2); (try clear hk); (try clear hi); (try clear ho0)))
                      (try simp only [Act.put, List.setIfInBounds_toArray, List.set_cons_zero, List.set_cons_succ])
                      go_cut [89] (fun v89 wc => ∃ (kq : Nat) (x89_45 : Bool), v89 = .bool x89_45 ∧ Aside0 (laws_FnExactFirstBestPlan.j2 kq t175 t174 x89_45 = some r) ∧ Aside0 (kq ≤ kj25) ∧ Aside0 (Kd.R (Kd.int .i64) 3 wc w.heap.size (fun _ => True) (.slice Ao47 t162.length co47) t175) ∧ Aside0 (Below w.heap.size w wc))
                      case first =>
                        have H := HC46.out
                        clear HC46
                        replace H := Option.bind_eq_some_iff.mp H
                        obtain ⟨t184, A520, H⟩ := H
                        replace H : (if t184 = true then (laws_FnExactFirstBestPlan.j2 kj25 t175 t174 (t181 != t156)) else (laws_FnExactFirstBestPlan.j2 kj25 t175 t174 true)) = some r := H
                        have A52 := Aside0.mk A520
                        clear A520
                        by_cases c53 : t184 = true
                        · subst c53
                          have H1 : (laws_FnExactFirstBestPlan.j2 kj25 t175 t174 (t181 != t156)) = some r := by rw [if_pos rfl] at H; exact H
                          clear H
                          have H := H1
                          clear H1
                          have H' := Aside0.mk H
                          clear H
                          obtain ⟨Ao54, co54, eo54⟩ := Kd.R_slice HO183.out
                          subst eo54
                          obtain ⟨Ao55, co55, eo55⟩ := Kd.R_slice HO_5.out
                          subst eo55
                          go_wp2_with (first | ((with_reducible refine gate_callee (f := 12) rfl ?_); refine goesL_ (some 83) rfl rfl Try.func12 (by kernel_rfl) rfl #[.slice Ao54 t180.length co54, .slice Ao55 t155.length co55] rfl (by (try simp only [List.map_toArray, List.map_cons, List.map_nil]); first | done | rfl | (simp only [List.length_drop, List.length_take]; rfl)) ?_; (with_reducible refine (laws_eqIntS.calls kj25 _ _ t180 _ _ t155 true _ ?side1 ?side2 ?side3 ?side4 A52.out).mono ?_); (case side1 => repeat (first | exact (Kd.R_reads' HO183.out).2.2 | (with_reducible refine Kd.C_alloc ?_ _) | (with_reducible refine Kd.C_drewN ?_ _) | (with_reducible refine Kd.C_drew ?_))); (case side2 => exact (Kd.R_reads' HO183.out).2.1); (case side3 => repeat (first | exact (Kd.R_reads' HO_5.out).2.2 | (with_reducible refine Kd.C_alloc ?_ _) | (with_reducible refine Kd.C_drewN ?_ _) | (with_reducible refine Kd.C_drew ?_))); (case side4 => exact (Kd.R_reads' HO_5.out).2.1); rintro e w' ⟨rfl, ⟨nd, rfl⟩⟩; refine ⟨_, rfl, ?_⟩))
                          go_meet
                          case rel => exact ⟨_, ((t181 != t156)), (by first | rfl | (simp; done) | (simp [*]; done)), H', ⟨by have := HJ7.out; have := HJ25.out; first | omega | exact Nat.le_refl _⟩, ⟨by (with_reducible repeat (first | apply Kd.R_alloc | apply Kd.R_drewN | apply Kd.R_drew)); exact Kd.R_mono HO_8.out (fun _ hk => trivial)⟩, ⟨by repeat (first | (with_reducible first | exact HB.out | apply below_alloc | apply pw_below_drewN | apply below_drew1) | exact HB.out)⟩⟩
                        · replace c53 := Bool.eq_false_iff.mpr c53
                          subst c53
                          have H1 : (laws_FnExactFirstBestPlan.j2 kj25 t175 t174 true) = some r := by rw [if_neg (show ¬ (false = true) by decide)] at H; exact H
                          clear H
                          have H := H1
                          clear H1
                          have H' := Aside0.mk H
                          clear H
                          obtain ⟨Ao56, co56, eo56⟩ := Kd.R_slice HO183.out
                          subst eo56
                          obtain ⟨Ao57, co57, eo57⟩ := Kd.R_slice HO_5.out
                          subst eo57
                          go_wp2_with (first | ((with_reducible refine gate_callee (f := 12) rfl ?_); refine goesL_ (some 83) rfl rfl Try.func12 (by kernel_rfl) rfl #[.slice Ao56 t180.length co56, .slice Ao57 t155.length co57] rfl (by (try simp only [List.map_toArray, List.map_cons, List.map_nil]); first | done | rfl | (simp only [List.length_drop, List.length_take]; rfl)) ?_; (with_reducible refine (laws_eqIntS.calls kj25 _ _ t180 _ _ t155 false _ ?side1 ?side2 ?side3 ?side4 A52.out).mono ?_); (case side1 => repeat (first | exact (Kd.R_reads' HO183.out).2.2 | (with_reducible refine Kd.C_alloc ?_ _) | (with_reducible refine Kd.C_drewN ?_ _) | (with_reducible refine Kd.C_drew ?_))); (case side2 => exact (Kd.R_reads' HO183.out).2.1); (case side3 => repeat (first | exact (Kd.R_reads' HO_5.out).2.2 | (with_reducible refine Kd.C_alloc ?_ _) | (with_reducible refine Kd.C_drewN ?_ _) | (with_reducible refine Kd.C_drew ?_))); (case side4 => exact (Kd.R_reads' HO_5.out).2.1); rintro e w' ⟨rfl, ⟨nd, rfl⟩⟩; refine ⟨_, rfl, ?_⟩))
                          go_meet
                          case rel => exact ⟨_, (true), (by first | rfl | (simp; done) | (simp [*]; done)), H', ⟨by have := HJ7.out; have := HJ25.out; first | omega | exact Nat.le_refl _⟩, ⟨by (with_reducible repeat (first | apply Kd.R_alloc | apply Kd.R_drewN | apply Kd.R_drew)); exact Kd.R_mono HO_8.out (fun _ hk => trivial)⟩, ⟨by repeat (first | (with_reducible first | exact HB.out | apply below_alloc | apply pw_below_drewN | apply below_drew1) | exact HB.out)⟩⟩
                      case rest =>
                        clear HC46
                        try clear c1
                        try clear c2
                        try clear p2
                        try clear c3
                        try clear c3b0
                        try clear c3b1
                        try clear c4
                        try clear c5
                        try clear c8
                        try clear c10
                        try clear c12
                        try clear c13
                        try clear c14
                        try clear c16
                        try clear c21
                        try clear c23
                        try clear c24
                        try clear c30
                        try clear c30b0
                        try clear c32
                        try clear c37
                        try clear c40
                        try clear c40b0
                        try clear c43
                        try clear c43b0
                        try clear c43b1
                        try clear c53
                        try clear p2
                        obtain ⟨kq, x89_45, rfl, HA, HJ45, HO_8, HB⟩ := hcut
                        have hl8_45 := (Kd.R_reads' HO_8.out).1
                        rw [hl8_45] at HO_8
                        (try simp only [hl8_45])
                        cases kq with
                        | zero => exact absurd HA.out (by simp [laws_FnExactFirstBestPlan.j2])
                        | succ kj45 =>
                          have H := HA.out
                          clear HA
                          simp only [laws_FnExactFirstBestPlan.j2] at H
                          by_cases c58 : x89_45 = true
                          · subst c58
                            have H1 : (some false) = some r := by rw [if_pos rfl] at H; exact H
                            clear H
                            have H := H1
                            clear H1
                            obtain rfl := Option.some.inj H
                            go_wp2
                            go_ret
                            exact ⟨by first | rfl | (simp [errW_none, errW_some] <;> rfl) | (simp [*, errW_none, errW_some] <;> rfl), by repeat (first | (with_reducible first | exact HB.out | apply below_alloc | apply pw_below_drewN | apply below_drew1) | exact HB.out)⟩
                          · replace c58 := Bool.eq_false_iff.mpr c58
                            subst c58
                            have H1 : ((laws_heldIntS.f kj45 t175 1).bind fun t185 => (if t185 < 0 then (some false) else (if t185 = t174 then (some true) else (some false)))) = some r := by rw [if_neg (show ¬ (false = true) by decide)] at H; exact H
                            clear H
                            have H := H1
                            clear H1
                            replace H := Option.bind_eq_some_iff.mp H
                            obtain ⟨t185, A590, H⟩ := H
                            replace H : (if t185 < 0 then (some false) else (if t185 = t174 then (some true) else (some false))) = some r := H
                            have A59 := Aside0.mk A590
                            clear A590
                            by_cases c60 : t185 < 0
                            · rw [if_pos c60] at H
                              have c60b0 : decide (t185 < 0) = true := decide_eq_true c60
                              clear c60
                              obtain rfl := Option.some.inj H
                              go_wp2_with (first | ((with_reducible refine gate_callee (f := 14) rfl ?_); refine goesL_ (some 92) rfl rfl Try.func14 (by kernel_rfl) rfl #[.slice Ao47 t175.length co47, .int .i64 1] rfl (by (try simp only [List.map_toArray, List.map_cons, List.map_nil]); first | done | rfl | (simp only [List.length_drop, List.length_take]; rfl)) ?_; (with_reducible refine (laws_heldIntS.calls kj45 _ _ t175 1 t185 _ ?side1 ?side2 A59.out).mono ?_); (case side1 => repeat (first | exact (Kd.R_reads' HO_8.out).2.2 | (with_reducible refine Kd.C_alloc ?_ _) | (with_reducible refine Kd.C_drewN ?_ _) | (with_reducible refine Kd.C_drew ?_))); (case side2 => exact (Kd.R_reads' HO_8.out).2.1); rintro e w' ⟨rfl, ⟨nd, rfl⟩⟩; refine ⟨_, rfl, ?_⟩))
                              go_ret
                              exact ⟨by first | rfl | (simp [errW_none, errW_some] <;> rfl) | (simp [*, errW_none, errW_some] <;> rfl), by repeat (first | (with_reducible first | exact HB.out | apply below_alloc | apply pw_below_drewN | apply below_drew1) | exact HB.out)⟩
                            · rw [if_neg c60] at H
                              have c60b0 : decide (t185 < 0) = false := decide_eq_false c60
                              clear c60
                              by_cases c61 : t185 = t174
                              · rw [if_pos c61] at H
                                have c61b0 : (t185 == t174) = true := beq_iff_eq.mpr c61
                                have c61b1 : (t185 != t174) = false := bne_eq_false_iff_eq.mpr c61
                                clear c61
                                obtain rfl := Option.some.inj H
                                go_wp2_with (first | ((with_reducible refine gate_callee (f := 14) rfl ?_); refine goesL_ (some 92) rfl rfl Try.func14 (by kernel_rfl) rfl #[.slice Ao47 t175.length co47, .int .i64 1] rfl (by (try simp only [List.map_toArray, List.map_cons, List.map_nil]); first | done | rfl | (simp only [List.length_drop, List.length_take]; rfl)) ?_; (with_reducible refine (laws_heldIntS.calls kj45 _ _ t175 1 t185 _ ?side1 ?side2 A59.out).mono ?_); (case side1 => repeat (first | exact (Kd.R_reads' HO_8.out).2.2 | (with_reducible refine Kd.C_alloc ?_ _) | (with_reducible refine Kd.C_drewN ?_ _) | (with_reducible refine Kd.C_drew ?_))); (case side2 => exact (Kd.R_reads' HO_8.out).2.1); rintro e w' ⟨rfl, ⟨nd, rfl⟩⟩; refine ⟨_, rfl, ?_⟩))
                                go_ret
                                exact ⟨by first | rfl | (simp [errW_none, errW_some] <;> rfl) | (simp [*, errW_none, errW_some] <;> rfl), by repeat (first | (with_reducible first | exact HB.out | apply below_alloc | apply pw_below_drewN | apply below_drew1) | exact HB.out)⟩
                              · rw [if_neg c61] at H
                                have c61b0 : (t185 == t174) = false := beq_eq_false_iff_ne.mpr c61
                                have c61b1 : (t185 != t174) = true := bne_iff_ne.mpr c61
                                obtain rfl := Option.some.inj H
                                go_wp2_with (first | ((with_reducible refine gate_callee (f := 14) rfl ?_); refine goesL_ (some 92) rfl rfl Try.func14 (by kernel_rfl) rfl #[.slice Ao47 t175.length co47, .int .i64 1] rfl (by (try simp only [List.map_toArray, List.map_cons, List.map_nil]); first | done | rfl | (simp only [List.length_drop, List.length_take]; rfl)) ?_; (with_reducible refine (laws_heldIntS.calls kj45 _ _ t175 1 t185 _ ?side1 ?side2 A59.out).mono ?_); (case side1 => repeat (first | exact (Kd.R_reads' HO_8.out).2.2 | (with_reducible refine Kd.C_alloc ?_ _) | (with_reducible refine Kd.C_drewN ?_ _) | (with_reducible refine Kd.C_drew ?_))); (case side2 => exact (Kd.R_reads' HO_8.out).2.1); rintro e w' ⟨rfl, ⟨nd, rfl⟩⟩; refine ⟨_, rfl, ?_⟩))
                                go_ret
                                exact ⟨by first | rfl | (simp [errW_none, errW_some] <;> rfl) | (simp [*, errW_none, errW_some] <;> rfl), by repeat (first | (with_reducible first | exact HB.out | apply below_alloc | apply pw_below_drewN | apply below_drew1) | exact HB.out)⟩
                    · rw [if_neg c43] at H
                      have c43b0 : (t176 == t174) = false := beq_eq_false_iff_ne.mpr c43
                      have c43b1 : (t176 != t174) = true := bne_iff_ne.mpr c43
                      obtain rfl := Option.some.inj H
                      obtain ⟨Ao62, co62, eo62⟩ := Kd.R_slice HO_8.out
                      subst eo62
                      go_wp2_with (first | ((with_reducible refine gate_callee (f := 13) rfl ?_); refine goesL_ (some 65) rfl rfl Try.func13 (by kernel_rfl) rfl #[.slice Ao62 t162.length co62, .int .i64 1] rfl (by (try simp only [List.map_toArray, List.map_cons, List.map_nil]); first | done | rfl | (simp only [List.length_drop, List.length_take]; rfl)) ?_; (with_reducible refine (laws_markIntS.calls kj25 (fun k_ => some k_ = (.slice Ao62 t162.length co62 : Value).ownBlock) (.slice Ao62 t162.length co62) t162 1 t174 t175 w _ ?side1 ?side2 A38.out).mono ?_); (case side1 => repeat (first | (with_reducible first | exact HB.out | apply below_alloc | apply pw_below_drewN | apply below_drew1) | exact HB.out)); (case side2 => exact Kd.R_tight rfl HO_8.out); rintro e w63 ⟨rfl, hy0, hb, hkp⟩; refine ⟨_, rfl, ?_⟩; have n0_ := Aside0.mk (Kd.R_mono (ok' := fun k_ => some k_ ≠ (.slice Ao62 t162.length co62 : Value).ownBlock) (Kd.R_keptB (HO_5.out) hkp (fun k_ hk_ hs_ => (hk_) hs_)) (fun k_ hk_ => hk_.1)); have n1_ := Aside0.mk (Kd.R_reok rfl hy0 (fun k_ e_ => HO_8.out.1 k_ e_)); have n2_ := Aside0.mk (hb); clear HO_5; clear HO_8; clear HB; have HO_5 := n0_; have HO_8 := n1_; have HB := n2_; clear n0_ n1_ n2_; (try clear hb); (try clear hkp); (try clear hy0)) | ((with_reducible refine gate_callee (f := 14) rfl ?_); refine goesL_ (some 68) rfl rfl Try.func14 (by kernel_rfl) rfl #[.slice Ao62 t175.length co62, .int .i64 1] rfl (by (try simp only [List.map_toArray, List.map_cons, List.map_nil]); first | done | (rw [show t175.length = t162.length from (Kd.R_reads' HO_8.out).1.symm] <;> rfl) | rfl | (simp only [List.length_drop, List.length_take]; rfl)) ?_; (with_reducible refine (laws_heldIntS.calls kj25 _ _ t175 1 t176 _ ?side1 ?side2 A39.out).mono ?_); (case side1 => repeat (first | exact (Kd.R_reads' HO_8.out).2.2 | (with_reducible refine Kd.C_alloc ?_ _) | (with_reducible refine Kd.C_drewN ?_ _) | (with_reducible refine Kd.C_drew ?_))); (case side2 => rw [show t175.length = t162.length from (Kd.R_reads' HO_8.out).1.symm]; exact (Kd.R_reads' HO_8.out).2.1); rintro e w' ⟨rfl, ⟨nd, rfl⟩⟩; refine ⟨_, rfl, ?_⟩))
                      go_ret
                      exact ⟨by first | rfl | (simp [errW_none, errW_some] <;> rfl) | (simp [*, errW_none, errW_some] <;> rfl), by repeat (first | (with_reducible first | exact HB.out | apply below_alloc | apply pw_below_drewN | apply below_drew1) | exact HB.out)⟩
          · replace c24 := Bool.eq_false_iff.mpr c24
            subst c24
            have H1 : (some false) = some r := by rw [if_neg (show ¬ (false = true) by decide)] at H; exact H
            clear H
            have H := H1
            clear H1
            obtain rfl := Option.some.inj H
            go_wp2_with (first | ((with_reducible refine gate_callee (f := 10) rfl ?_); refine goesL_ (some 44) rfl rfl Try.func10 (by kernel_rfl) rfl #[.slice A0 l0.length c0] rfl (by (try simp only [List.map_toArray, List.map_cons, List.map_nil]); first | done | rfl | (simp only [List.length_drop, List.length_take]; rfl)) ?_; (with_reducible refine (laws_toIntS.calls kj7 _ _ l0 t167 _ ?side1 ?side2 A22.out).mono ?_); (case side1 => repeat (first | exact (Kd.C_below HR0.out HB.out) | (with_reducible refine Kd.C_alloc ?_ _) | (with_reducible refine Kd.C_drewN ?_ _) | (with_reducible refine Kd.C_drew ?_))); (case side2 => exact HC0.out); rintro e w64 ⟨v168, rfl, ho0, hb⟩; refine ⟨_, rfl, ?_⟩; have n0_ := Aside0.mk (Kd.R_elder' (by (with_reducible repeat (first | apply Kd.R_alloc | apply Kd.R_drewN | apply Kd.R_drew)); exact HO_5.out) (Kd.R_base ho0) hb); have n1_ := Aside0.mk (Kd.R_elder' (by (with_reducible repeat (first | apply Kd.R_alloc | apply Kd.R_drewN | apply Kd.R_drew)); exact HO_7.out) (Kd.R_base ho0) hb); have n2_ := Aside0.mk (Kd.R_elder' (by (with_reducible repeat (first | apply Kd.R_alloc | apply Kd.R_drewN | apply Kd.R_drew)); exact HO_8.out) (Kd.R_base ho0) hb); have n3_ := Aside0.mk (Kd.R_lower (Kd.R_new' (Kd.R_new' (Kd.R_new' ho0 (Kd.R_lt (by (with_reducible repeat (first | apply Kd.R_alloc | apply Kd.R_drewN | apply Kd.R_drew)); exact HO_5.out))) (Kd.R_lt (by (with_reducible repeat (first | apply Kd.R_alloc | apply Kd.R_drewN | apply Kd.R_drew)); exact HO_7.out))) (Kd.R_lt (by (with_reducible repeat (first | apply Kd.R_alloc | apply Kd.R_drewN | apply Kd.R_drew)); exact HO_8.out))) (below_size (by repeat (first | (with_reducible first | exact HB.out | apply below_alloc | apply pw_below_drewN | apply below_drew1) | exact HB.out)))); have n4_ := Aside0.mk (below_step (by repeat (first | (with_reducible first | exact HB.out | apply below_alloc | apply pw_below_drewN | apply below_drew1) | exact HB.out)) hb); clear HO_5; clear HO_7; clear HO_8; clear HB; have HO_5 := n0_; have HO_7 := n1_; have HO_8 := n2_; have HO169 := n3_; have HB := n4_; clear n0_ n1_ n2_ n3_ n4_; (try clear hb); (try clear hb2); (try clear hk); (try clear hi); (try clear ho0); obtain ⟨Ao65, co65, eo65⟩ := Kd.R_slice HO169.out; subst eo65) | ((with_reducible refine gate_callee (f := 12) rfl ?_); refine goesL_ (some 45) rfl rfl Try.func12 (by kernel_rfl) rfl #[.slice Ao13 t159.length co13, .slice Ao65 t167.length co65] rfl (by (try simp only [List.map_toArray, List.map_cons, List.map_nil]); first | done | rfl | (simp only [List.length_drop, List.length_take]; rfl)) ?_; (with_reducible refine (laws_eqIntS.calls kj7 _ _ t159 _ _ t167 false _ ?side1 ?side2 ?side3 ?side4 A23.out).mono ?_); (case side1 => repeat (first | exact (Kd.R_reads' HO_7.out).2.2 | (with_reducible refine Kd.C_alloc ?_ _) | (with_reducible refine Kd.C_drewN ?_ _) | (with_reducible refine Kd.C_drew ?_))); (case side2 => exact (Kd.R_reads' HO_7.out).2.1); (case side3 => repeat (first | exact (Kd.R_reads' HO169.out).2.2 | (with_reducible refine Kd.C_alloc ?_ _) | (with_reducible refine Kd.C_drewN ?_ _) | (with_reducible refine Kd.C_drew ?_))); (case side4 => exact (Kd.R_reads' HO169.out).2.1); rintro e w' ⟨rfl, ⟨nd, rfl⟩⟩; refine ⟨_, rfl, ?_⟩))
            go_ret
            exact ⟨by first | rfl | (simp [errW_none, errW_some] <;> rfl) | (simp [*, errW_none, errW_some] <;> rfl), by repeat (first | (with_reducible first | exact HB.out | apply below_alloc | apply pw_below_drewN | apply below_drew1) | exact HB.out)⟩

/-- THE ONE PURE STATEMENT of laws_FnExactFirstBestPlan: yours. -/
def laws_FnExactFirstBestPlan.Pure : Prop := ∀ (l0 : List Int) (a1 : Int), l0.length ≤ maxLen → l0.length * 8 ≤ 140737488351232 → (∀ x ∈ l0, (Lit.int .i64 x).wf = true) → (Lit.int .i64 a1).wf = true → ∃ k, laws_FnExactFirstBestPlan.f k l0 a1 = some true
theorem laws_FnExactFirstBestPlan.walk (P : laws_FnExactFirstBestPlan.Pure) (a0 : Option Addr) (len0 cap0 : Nat) (z0 : List Int) (a1 : Int) (w : World) (w0 : (a0 = none ∧ len0 = 0 ∧ cap0 = 0 ∧ z0 = []) ∨ ∃ x, a0 = some x ∧ len0 ≤ cap0 ∧ cap0 ≤ maxLen ∧ z0.length = cap0 ∧ (∀ i, i < z0.length → w.cell? (x.add i) = some (.int .i64 (z0.getD i 0))) ∧ ∀ n ∈ z0, (Lit.int .i64 n).wf = true) (y0 : len0 * 8 ≤ 140737488351232) (w1 : (Lit.int .i64 a1).wf = true) :
    Calls Try.prog 8 #[.slice a0 len0 cap0, .int .i64 a1] w fun e w' => e = .returned (.bool true) ∧ Below w.heap.size w w' := by
  obtain ⟨l0, rfl, hr0, hm0, hw0, hc0⟩ := ReadsInt.ofRowC w0
  obtain ⟨k, h⟩ := P l0 a1 hm0 y0 hw0 w1
  refine (laws_FnExactFirstBestPlan.calls k _ _ l0 a1 true w (Kd.C_of_reads (d := (0 : Int)) (h1 := fun _ => rfl) hr0) hc0 h).mono ?_
  rintro e w' ⟨rfl, hd⟩
  exact ⟨rfl, hd⟩

end Go.Proofs.Yteneeeepocefaaa.PFnExactFirstBestPlan
