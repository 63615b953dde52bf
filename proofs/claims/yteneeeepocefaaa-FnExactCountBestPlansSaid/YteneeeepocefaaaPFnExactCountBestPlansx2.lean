-- Written by a program of this session (wip/tool/myprint.py) over the translation. Not trusted: Lean checks it.
import Derived.Test.YteneeeepocefaaaPFnExactCountBestPlansx0
import Derived.Test.YteneeeepocefaaaPFnExactCountBestPlansx1
namespace Go.Proofs.Yteneeeepocefaaa.PFnExactCountBestPlans
open Go.RowKit Go.Proofs.YteneeeepocefaaaW.PrintWords Go.Proofs.YteneeeepocefaaaW.PrintLast Go.Proofs.YteneeeepocefaaaW.PrintMore
attribute [local go_sem] max2_int min2_int max_two min_two max_three min_three max_four min_four   -- for this text's walks alone
set_option linter.unusedVariables false
set_option linter.unusedSimpArgs false

/-! ### spec_ldBest: function 34, by hand -/
/-- The greatest load, as the loop tells it. -/
def LdLook.top (loads : List Int) : Int := loads.foldl (fun a n => if a > n then a else n) 0
def LdLook.loop (rec : List Int → List Int → Int × List Int × Int → Option (Int × List Int × Int)) (jobs plan loads : List Int) : Nat → Nat → Int × List Int × Int → Option (Int × List Int × Int)
  | 0, _, s => some s
  | d + 1, i, s => if plan.length < jobs.length then ((rec (plan ++ [(i : Int)]) (loads.set i (wrap64 (rd loads (i : Int) + rd jobs (plan.length : Int)))) s).bind fun s' => LdLook.loop rec jobs plan loads d (i + 1) s') else none
def LdLook.f (jobs : List Int) : Nat → List Int → List Int → Int × List Int × Int → Option (Int × List Int × Int)
  | 0, _, _, _ => none
  | k + 1, plan, loads, s => if loads.length < 1048576 ∧ plan.length < 1048576 then (if LdLook.top loads > s.1 then some s else if plan.length = jobs.length then (if LdLook.top loads < s.1 then some (LdLook.top loads, plan, 1) else some (s.1, s.2.1, wrap64 (s.2.2 + 1))) else LdLook.loop (LdLook.f jobs k) jobs plan loads loads.length 0 s) else none
theorem LdLook.loop_mono {rec rec' : List Int → List Int → Int × List Int × Int → Option (Int × List Int × Int)} (h : ∀ a b c, LeO (rec a b c) (rec' a b c)) (jobs plan loads : List Int) : ∀ d i s, LeO (LdLook.loop rec jobs plan loads d i s) (LdLook.loop rec' jobs plan loads d i s)
  | 0, _, _ => LeO.refl _
  | d + 1, i, s => LeO.ite (LeO.bind (h _ _ _) (fun _ => LdLook.loop_mono h jobs plan loads d (i + 1) _)) (LeO.refl _)
theorem LdLook.mono (jobs : List Int) : ∀ k a b c, LeO (LdLook.f jobs k a b c) (LdLook.f jobs (k + 1) a b c)
  | 0, _, _, _ => LeO.none _
  | k + 1, a, b, c => LeO.ite (LeO.ite (LeO.refl _) (LeO.ite (LeO.refl _) (LdLook.loop_mono (LdLook.mono jobs k) jobs a b _ _ _))) (LeO.refl _)
def LdLook.S (g1 g2 g3 q : Nat) : Prop := q = g1 ∨ q = g2 ∨ q = g3
/-- The three boxes: end, best, count. -/
def LdLook.Box (w0 : World) (g1 g2 g3 : Nat) (s : Int × List Int × Int) (W : World) : Prop :=
  W.heap[g1]? = some (.cells #[.int .i64 s.1] 3 (0, 0)) ∧ (∃ v, W.heap[g2]? = some (.cells #[v] 22 (0, 0)) ∧ Kd.R (Kd.int .i64) 3 W w0.heap.size (fun q => ¬ LdLook.S g1 g2 g3 q) v s.2.1) ∧ W.heap[g3]? = some (.cells #[.int .i64 s.2.2] 3 (0, 0))
theorem LdLook.Box.below {w0 W W1 : World} {g1 g2 g3 : Nat} {s : Int × List Int × Int} (h : LdLook.Box w0 g1 g2 g3 s W) (k : Below W.heap.size W W1) : LdLook.Box w0 g1 g2 g3 s W1 := by
  obtain ⟨h1, ⟨v, h2, h3⟩, h4⟩ := h
  exact ⟨(k.block g1 (lt_of_block h1)).trans h1, ⟨v, (k.block g2 (lt_of_block h2)).trans h2, Kd.R_below h3 k⟩, (k.block g3 (lt_of_block h4)).trans h4⟩
def LdLook.Apart (w0 : World) (g1 g2 g3 : Nat) : Prop := g1 ≠ g2 ∧ g1 ≠ g3 ∧ g2 ≠ g3 ∧ w0.heap.size ≤ g1 ∧ w0.heap.size ≤ g2 ∧ w0.heap.size ≤ g3
def LdLook.Far (A : Option Addr) (n g1 g2 g3 : Nat) : Prop := ∀ ad, A = some ad → 0 < n → ¬ LdLook.S g1 g2 g3 ad.block
theorem below_step_ {B : Nat} {a w w1 : World} (h : Below B a w) (k : Below w.heap.size w w1) (hB : B ≤ w.heap.size) : Below B a w1 := h.trans (k.mono hB)
theorem LdLook.Box.set1 {w0 W : World} {g1 g2 g3 : Nat} {s : Int × List Int × Int} (h : LdLook.Box w0 g1 g2 g3 s W) (ap : LdLook.Apart w0 g1 g2 g3) (e : Int) : LdLook.Box w0 g1 g2 g3 (e, s.2.1, s.2.2) (W.setCell ⟨g1, 0, none⟩ (.int .i64 e)) := by
  obtain ⟨h1, ⟨v, h2, h3⟩, h4⟩ := h
  exact ⟨one_setCell h1, ⟨v, (Below.heap_setCell W _ _ g2 (show g2 ≠ g1 from ap.1.symm)).trans h2, Kd.R_far (p := ⟨g1, 0, none⟩) h3 (fun q hq e => hq (.inl e)) _⟩, (Below.heap_setCell W _ _ g3 (show g3 ≠ g1 from ap.2.1.symm)).trans h4⟩
theorem LdLook.Box.set2 {w0 W : World} {g1 g2 g3 : Nat} {s : Int × List Int × Int} (h : LdLook.Box w0 g1 g2 g3 s W) (ap : LdLook.Apart w0 g1 g2 g3) {v : Value} {B : List Int} (hv : Kd.R (Kd.int .i64) 3 W w0.heap.size (fun q => ¬ LdLook.S g1 g2 g3 q) v B) : LdLook.Box w0 g1 g2 g3 (s.1, B, s.2.2) (W.setCell ⟨g2, 0, none⟩ v) := by
  obtain ⟨h1, ⟨v0, h2, h3⟩, h4⟩ := h
  exact ⟨(Below.heap_setCell W _ _ g1 (show g1 ≠ g2 from ap.1)).trans h1, ⟨v, one_setCell h2, Kd.R_far (p := ⟨g2, 0, none⟩) hv (fun q hq e => hq (.inr (.inl e))) _⟩, (Below.heap_setCell W _ _ g3 (show g3 ≠ g2 from ap.2.2.1.symm)).trans h4⟩
theorem LdLook.Box.set3 {w0 W : World} {g1 g2 g3 : Nat} {s : Int × List Int × Int} (h : LdLook.Box w0 g1 g2 g3 s W) (ap : LdLook.Apart w0 g1 g2 g3) (c : Int) : LdLook.Box w0 g1 g2 g3 (s.1, s.2.1, c) (W.setCell ⟨g3, 0, none⟩ (.int .i64 c)) := by
  obtain ⟨h1, ⟨v, h2, h3⟩, h4⟩ := h
  exact ⟨(Below.heap_setCell W _ _ g1 (show g1 ≠ g3 from ap.2.1)).trans h1, ⟨v, (Below.heap_setCell W _ _ g2 (show g2 ≠ g3 from ap.2.2.1)).trans h2, Kd.R_far (p := ⟨g3, 0, none⟩) h3 (fun q hq e => hq (.inr (.inr e))) _⟩, one_setCell h4⟩
theorem LdLook.keep_set {w W : World} {S : Nat → Prop} (h : Kept w W S) {p : Addr} (hp : S p.block) (u : Value) : Kept w (W.setCell p u) S :=
  ⟨by simpa [World.setCell] using h.1, fun i hi hn => (Below.heap_setCell W p u i (fun e => hn (e ▸ hp))).trans (h.2 i hi hn)⟩
theorem LdLook.keep_three {w wr w6 w8 w9 : World} {S : Nat → Prop} (h1 : Kept w wr S) (h2 : Below wr.heap.size wr w6) (h3 : Below w6.heap.size w6 w8) (h4 : Kept w8 w9 S) : Kept w w9 S := by
  have s2 := h2.size
  have s3 := h3.size
  have s1 := h1.1
  refine ⟨Nat.le_trans (Nat.le_trans (Nat.le_trans s1 s2) s3) h4.1, fun i hi hn => ?_⟩
  rw [h4.2 i (by omega) hn, h3.block i (by omega), h2.block i (by omega), h1.2 i hi hn]
/-- The call of itself, one round of fuel less. -/
theorem LdLook.again {jobs : List Int} {A0 : Option Addr} {c0 g1 g2 g3 : Nat} {w0 : World} {k : Nat}
    (ih : ∀ (A1 : Option Addr) (c1 : Nat) (plan : List Int) (A2 : Option Addr) (c2 : Nat) (loads : List Int) (s r : Int × List Int × Int) (w : World) (hB : Below w0.heap.size w0 w) (hbx : LdLook.Box w0 g1 g2 g3 s w) (hr0 : Kd.C (Kd.int .i64) w A0 jobs.length jobs) (hr1 : Kd.R (Kd.int .i64) 3 w w0.heap.size (fun q => ¬ LdLook.S g1 g2 g3 q) (.slice A1 plan.length c1) plan) (hr2 : Kd.C (Kd.int .i64) w A2 loads.length loads) (hc2 : loads.length ≤ c2) (hf2 : LdLook.Far A2 loads.length g1 g2 g3) (h : LdLook.f jobs k plan loads s = some r),
      Calls Try.prog 49 #[.slice A0 jobs.length c0, .slice A1 plan.length c1, .slice A2 loads.length c2, .pointer (some ⟨g1, 0, none⟩), .pointer (some ⟨g2, 0, none⟩), .pointer (some ⟨g3, 0, none⟩)] w fun e w' => e = .returned (.tuple #[]) ∧ LdLook.Box w0 g1 g2 g3 r w' ∧ Below w0.heap.size w0 w' ∧ Kept w w' (LdLook.S g1 g2 g3))
    {plan loads : List Int} {s1 s2 : Int × List Int × Int} {p : Nat} {x : Int} {w8 : World} {A8 : Option Addr} {c8 gn cn base : Nat} (hrec : LdLook.f jobs k (plan ++ [(p : Int)]) (loads.set p x) s1 = some s2) (hB : Below w0.heap.size w0 w8) (hX : LdLook.Box w0 g1 g2 g3 s1 w8) (hJ : Kd.C (Kd.int .i64) w8 A0 jobs.length jobs)
    (hV : Kd.R (Kd.int .i64) 3 w8 w0.heap.size (fun q => ¬ LdLook.S g1 g2 g3 q) (.slice A8 (plan ++ [(p : Int)]).length c8) (plan ++ [(p : Int)])) (hN : Kd.R (Kd.int .i64) 3 w8 base (fun _ => True) (.slice (some ⟨gn, 0, none⟩) loads.length cn) (loads.set p x)) (hfar : ∀ q, (Value.slice (some ⟨gn, 0, none⟩) loads.length cn).ownBlock = some q → ¬ LdLook.S g1 g2 g3 q) :
    Calls Try.prog 49 #[.slice A0 jobs.length c0, .slice A8 (plan ++ [(p : Int)]).length c8, .slice (some ⟨gn, 0, none⟩) loads.length cn, .pointer (some ⟨g1, 0, none⟩), .pointer (some ⟨g2, 0, none⟩), .pointer (some ⟨g3, 0, none⟩)] w8 fun e w' => e = .returned (.tuple #[]) ∧ LdLook.Box w0 g1 g2 g3 s2 w' ∧ Below w0.heap.size w0 w' ∧ Kept w8 w' (LdLook.S g1 g2 g3) := by
  have hl : (loads.set p x).length = loads.length := List.length_set
  have hr := Kd.R_reads' hN
  have := ih A8 c8 (plan ++ [(p : Int)]) (some ⟨gn, 0, none⟩) cn (loads.set p x) s1 s2 w8 hB hX hJ hV hr.2.2 (by rw [hl]; exact hr.2.1) (fun ad he _ => by cases he; exact hfar gn rfl) hrec
  rw [hl] at this
  exact this
theorem LdLook.own_eq (l : List Int) (hl : l.length < 1048576) : spec_l1Own.f l = some l := by
  unfold spec_l1Own.f
  simp only [Option.bind_some, List.nil_append, List.length_nil]
  rw [if_pos (by omega)]
theorem LdLook.Box.lt {w0 W : World} {g1 g2 g3 : Nat} {s : Int × List Int × Int} (h : LdLook.Box w0 g1 g2 g3 s W) : ∀ k, W.heap.size ≤ k → ¬ LdLook.S g1 g2 g3 k := by
  intro k hk hs
  obtain ⟨h1, ⟨v, h2, _⟩, h3⟩ := h
  have := lt_of_block h1
  have := lt_of_block h2
  have := lt_of_block h3
  unfold LdLook.S at hs
  omega
theorem LdLook.top_snoc (l : List Int) (x : Int) : LdLook.top (l ++ [x]) = if LdLook.top l > x then LdLook.top l else x := by
  unfold LdLook.top
  rw [List.foldl_append]
  rfl
theorem LdLook.take_snoc {l : List Int} {i : Nat} (h : i < l.length) : l.take (i + 1) = l.take i ++ [rd l (i : Int)] := by
  have : rd l (i : Int) = l[i] := by
    unfold rd
    rw [Int.toNat_natCast, List.getD_eq_getElem?_getD, List.getElem?_eq_getElem h]
    rfl
  rw [this]
  exact List.take_succ_eq_append_getElem h
set_option maxHeartbeats 1600000 in
set_option maxRecDepth 100000 in
theorem LdLook.calls (jobs : List Int) (A0 : Option Addr) (c0 : Nat) (g1 g2 g3 : Nat) (w0 : World) (hap : LdLook.Apart w0 g1 g2 g3) (hf0 : LdLook.Far A0 jobs.length g1 g2 g3) (hc0 : jobs.length ≤ c0) (k : Nat) : ∀ (A1 : Option Addr) (c1 : Nat) (plan : List Int) (A2 : Option Addr) (c2 : Nat) (loads : List Int) (s r : Int × List Int × Int) (w : World) (hB : Below w0.heap.size w0 w) (hbx : LdLook.Box w0 g1 g2 g3 s w) (hr0 : Kd.C (Kd.int .i64) w A0 jobs.length jobs) (hr1 : Kd.R (Kd.int .i64) 3 w w0.heap.size (fun q => ¬ LdLook.S g1 g2 g3 q) (.slice A1 plan.length c1) plan) (hr2 : Kd.C (Kd.int .i64) w A2 loads.length loads) (hc2 : loads.length ≤ c2) (hf2 : LdLook.Far A2 loads.length g1 g2 g3) (h : LdLook.f jobs k plan loads s = some r),
    Calls Try.prog 49 #[.slice A0 jobs.length c0, .slice A1 plan.length c1, .slice A2 loads.length c2, .pointer (some ⟨g1, 0, none⟩), .pointer (some ⟨g2, 0, none⟩), .pointer (some ⟨g3, 0, none⟩)] w fun e w' => e = .returned (.tuple #[]) ∧ LdLook.Box w0 g1 g2 g3 r w' ∧ Below w0.heap.size w0 w' ∧ Kept w w' (LdLook.S g1 g2 g3) := by
  induction k with
  | zero => intro A1 c1 plan A2 c2 loads s r w _ _ _ _ _ _ _ h; cases h
  | succ k ih =>
  intro A1 c1 plan A2 c2 loads s r w hB hbx hr0 hr1 hr2 hc2 hf2 h
  rw [LdLook.f] at h
  by_cases hg : loads.length < 1048576 ∧ plan.length < 1048576
  case neg => rw [if_neg hg] at h; cases h
  rw [if_pos hg] at h
  obtain ⟨se, sb, sc⟩ := s
  dsimp only at h
  have HB := Aside0.mk hB
  have HX := Aside0.mk hbx
  have HR0 := Aside0.mk hr0
  have HR1 := Aside0.mk hr1
  have HR2 := Aside0.mk hr2
  have HC2 := Aside0.mk hc2
  have HF2 := Aside0.mk hf2
  have HF0 := Aside0.mk hf0
  have HC0 := Aside0.mk hc0
  have HAP := Aside0.mk hap
  have HG := Aside0.mk hg
  have IH := Aside0.mk ih
  have HH := Aside0.mk h
  clear hB hbx hr0 hr1 hr2 hc2 hf2 hf0 hc0 hap hg ih h
  have x1 := cell_of_one HX.out.1
  have x3 := cell_of_one HX.out.2.2
  go_enter Try.func49, Try.ntmps49
  go_wp2
  go_loopg [12, 19] loads.length (fun gg v12 v19 w' => ∃ i q : Nat, i ≤ loads.length ∧ loads.length - i ≤ gg ∧ v12 = .int .i64 (LdLook.top (loads.take i)) ∧ v19 = .int .i64 (i : Int) ∧ w' = w.drewN q)
  case atStart => exact ⟨0, 0, Nat.zero_le _, by omega, rfl, rfl, rfl⟩
  case round =>
    obtain ⟨i, q, hi, hgg, rfl, rfl, rfl⟩ := hrel
    by_cases hlt : i < loads.length
    · have hltz : (i : Int) < (loads.length : Int) := by omega
      obtain ⟨ad, rfl, hcell⟩ := Kd.at_int HR2.out (i : Int) (by omega) hltz
      rw [Int.toNat_natCast] at hcell
      have hm : spec_l1Most.f (LdLook.top (loads.take i)) (rd loads (i : Int)) = some (LdLook.top (loads.take (i + 1))) := by
        rw [LdLook.take_snoc hlt, LdLook.top_snoc]
        unfold spec_l1Most.f
        split <;> rfl
      have HM := Aside0.mk hm
      clear hm
      go_wp2_with (go_at_call 58; refine (spec_l1Most.calls _ _ _ _ HM.out).mono ?_; rintro e w' ⟨rfl, ⟨nd, rfl⟩⟩)
      go_roundg (loads.length - (i + 1))
      case measure => omega
      case rel =>
        have := HG.out.1
        exact ⟨i + 1, _, by omega, by omega, rfl, by rw [show wrap64 ((i : Int) + 1) = ((i + 1 : Nat) : Int) from by unfold wrap64; omega], rfl⟩
    · have hltz : ¬ (i : Int) < (loads.length : Int) := by omega
      obtain rfl : i = loads.length := by omega
      rw [List.take_length]
      have H := HH.out
      by_cases c1 : LdLook.top loads > se
      · rw [if_pos c1] at H
        cases H
        have d1 : decide (se < LdLook.top loads) = true := decide_eq_true c1
        go_wp2
        ((try simp only [Exit.inBlock, Exit.then]); refine bodyPost_ret (results_none rfl _ _ _) rfl ?_)
        exact ⟨rfl, HX.out.below (pw_below_drewN (Below.refl _ w) q), below_step_ HB.out (pw_below_drewN (Below.refl _ w) q) HB.out.size, ⟨Nat.le_refl _, fun _ _ _ => rfl⟩⟩
      · rw [if_neg c1] at H
        have d1 : decide (se < LdLook.top loads) = false := decide_eq_false c1
        clear c1
        by_cases c2 : plan.length = jobs.length
        · rw [if_pos c2] at H
          have d2 : (plan.length == jobs.length) = true := beq_iff_eq.mpr c2
          have d2' : ((plan.length : Int) == (jobs.length : Int)) = true := beq_iff_eq.mpr (by omega)
          by_cases c3 : LdLook.top loads < se
          · rw [if_pos c3] at H
            cases H
            have d3 : decide (LdLook.top loads < se) = true := decide_eq_true c3
            have B0 := HX.out.below (pw_below_drewN (Below.refl _ w) q)
            have B1 := B0.set1 HAP.out (LdLook.top loads)
            have hRp := Kd.R_far (p := ⟨g1, 0, none⟩) (Kd.R_below HR1.out (pw_below_drewN (Below.refl _ w) q)) (fun q hq e => hq (.inl e)) (.int .i64 (LdLook.top loads))
            have B2 := B1.set2 HAP.out hRp
            have B3 := B2.set3 HAP.out 0
            have y1 := free_of_one B0.1
            obtain ⟨v1, hv1, _⟩ := B1.2.1
            have y2 := free_of_one hv1
            have y2' := cell_of_one hv1
            have y3 := free_of_one B2.2.2
            have y3' := cell_of_one B2.2.2
            have y4 := free_of_one B3.2.2
            have y4' := cell_of_one B3.2.2
            have HB4 := Aside0.mk (B3.set3 HAP.out 1)
            clear B0 B1 B2 B3 hRp hv1 c2
            go_wp2
            ((try simp only [Exit.inBlock, Exit.then]); refine bodyPost_ret (results_none rfl _ _ _) rfl ?_)
            exact ⟨rfl, HB4.out, (((below_step_ HB.out (pw_below_drewN (Below.refl _ w) q) HB.out.size).setCell HAP.out.2.2.2.1 _).setCell HAP.out.2.2.2.2.1 _).setCell HAP.out.2.2.2.2.2 _ |>.setCell HAP.out.2.2.2.2.2 _, LdLook.keep_set (LdLook.keep_set (LdLook.keep_set (LdLook.keep_set ⟨Nat.le_refl _, fun _ _ _ => rfl⟩ (.inl rfl) _) (.inr (.inl rfl)) _) (.inr (.inr rfl)) _) (.inr (.inr rfl)) _⟩
          · rw [if_neg c3] at H
            cases H
            have d3 : decide (LdLook.top loads < se) = false := decide_eq_false c3
            have f3 := free_of_one HX.out.2.2
            go_wp2
            ((try simp only [Exit.inBlock, Exit.then]); refine bodyPost_ret (results_none rfl _ _ _) rfl ?_)
            exact ⟨rfl, (HX.out.below (pw_below_drewN (Below.refl _ w) q)).set3 HAP.out _, (below_step_ HB.out (pw_below_drewN (Below.refl _ w) q) HB.out.size).setCell HAP.out.2.2.2.2.2 _, LdLook.keep_set ⟨Nat.le_refl _, fun _ _ _ => rfl⟩ (.inr (.inr rfl)) _⟩
        · rw [if_neg c2] at H
          have d2 : (plan.length == jobs.length) = false := beq_eq_false_iff_ne.mpr c2
          have d2' : ((plan.length : Int) == (jobs.length : Int)) = false := beq_eq_false_iff_ne.mpr (by omega)
          have HLp := Aside0.mk H
          clear H c2 HH x3
          go_wp2
          go_loopg [57] loads.length (fun gg v57 w' => ∃ (p : Nat) (s1 : Int × List Int × Int), v57 = .int .i64 (p : Int) ∧ Aside0 (p ≤ loads.length ∧ loads.length - p ≤ gg) ∧ Aside0 (LdLook.loop (LdLook.f jobs k) jobs plan loads (loads.length - p) p s1 = some r) ∧ Aside0 (LdLook.Box w0 g1 g2 g3 s1 w') ∧ Aside0 (Below w0.heap.size w0 w') ∧ Aside0 (Kept w w' (LdLook.S g1 g2 g3)))
          case atStart => exact ⟨0, (se, sb, sc), rfl, ⟨Nat.zero_le _, by omega⟩, HLp, ⟨HX.out.below (pw_below_drewN (Below.refl _ w) q)⟩, ⟨below_step_ HB.out (pw_below_drewN (Below.refl _ w) q) HB.out.size⟩, ⟨Nat.le_refl _, fun _ _ _ => rfl⟩⟩
          case round =>
            clear HLp HB HX x1
            obtain ⟨p, s1, rfl, HP, HLp, HX, HB, HK⟩ := hrel
            by_cases hlp : p < loads.length
            · have hltp : (p : Int) < (loads.length : Int) := by omega
              have hl := HLp.out
              rw [show loads.length - p = (loads.length - (p + 1)) + 1 from by omega, LdLook.loop] at hl
              by_cases hpl : plan.length < jobs.length
              case neg => rw [if_neg hpl] at hl; cases hl
              rw [if_pos hpl] at hl
              obtain ⟨s2, hrec, hrest⟩ := Option.bind_eq_some_iff.mp hl
              have HREC := Aside0.mk hrec
              have HREST := Aside0.mk hrest
              have HPL := Aside0.mk hpl
              have hpz : (plan.length : Int) < (jobs.length : Int) := by omega
              clear hl hrec hrest hpl HLp
              have HJ := Aside0.mk (Kd.C_foot_neS (fun h => h) HR0.out HF0.out wr HK.out)
              have HL2 := Aside0.mk (Kd.C_foot_neS (fun h => h) HR2.out HF2.out wr HK.out)
              have HPl := Aside0.mk (Kd.R_kept HR1.out HK.out (fun k hk => hk))
              have hown1 := LdLook.own_eq loads HG.out.1
              have hown2 := LdLook.own_eq plan HG.out.2
              have HO1 := Aside0.mk hown1
              have HO2 := Aside0.mk hown2
              clear hown1 hown2
              go_wp2_with (go_at_call 38; refine (spec_l1Own.calls A2 c2 loads loads _ (by first | exact HL2.out | exact Kd.C_below HL2.out (pw_below_drewN (Below.refl _ _) _)) HC2.out HO1.out).mono ?_; rintro e w5 ⟨vn, rfl, ho, hb⟩; have HN5 := Aside0.mk ho; have HB5 := Aside0.mk hb; clear ho hb; obtain ⟨An, cn, eqn⟩ := Kd.R_slice HN5.out; subst eqn)
              obtain ⟨gn, cn', eo, gb, gl, cl, HGn⟩ := Kd.R_form HN5.out (by omega)
              have eA : An = some ⟨gn, 0, none⟩ := by injection eo
              subst eA
              have HGB := Aside0.mk gb
              clear gb gl cl HGn eo
              have p0 : (0 : Int) ≤ (p : Int) := by omega
              obtain ⟨hx5, hf5⟩ := Kd.R_celln 0 HN5.out (p : Int) p0 hltp
              obtain ⟨adj, ej, hj5⟩ := Kd.at_int (Kd.C_below HJ.out HB5.out) (plan.length : Int) (by omega) hpz
              cases ej
              rw [Int.toNat_natCast] at hx5 hf5 hj5
              have hlen5 : decide ((p : Int) < (loads.length : Int)) = true := decide_eq_true hltp
              go_region
              have hR6 := Kd.R_drew (Kd.R_putn HN5.out (p : Int) (wrap64 (rd loads (p : Int) + rd jobs (plan.length : Int))))
              rw [Int.toNat_natCast] at hR6
              have hB6 : Below wr.heap.size wr (World.drew (w5.setCell ⟨gn, p, none⟩ (.int .i64 (wrap64 (rd loads (p : Int) + rd jobs (plan.length : Int)))))) := (HB5.out.setCell HGB.out _).drew
              have HN6 := Aside0.mk hR6
              have HB6 := Aside0.mk hB6
              clear hR6 hB6 hx5 hf5 hj5
              generalize hw6 : World.drew (w5.setCell ⟨gn, p, none⟩ (.int .i64 (wrap64 (rdOf 0 loads (p : Int) + rd jobs (plan.length : Int))))) = w6
              have HN6' : Aside0 (Kd.R (Kd.int .i64) 3 w6 wr.heap.size (fun _ => True) (.slice (some ⟨gn, 0, none⟩) loads.length cn) (loads.set p (wrap64 (rd loads (p : Int) + rd jobs (plan.length : Int))))) := ⟨by rw [← hw6]; exact HN6.out⟩
              have HB6' : Aside0 (Below wr.heap.size wr w6) := ⟨by rw [← hw6]; exact HB6.out⟩
              clear HN6 HB6 hw6
              go_wp2_with (first | (go_at_call 38; go_loud (refine (spec_l1Own.calls A1 c1 plan plan _ (Kd.C_below (Kd.R_reads' HPl.out).2.2 HB6'.out) (Kd.R_reads' HPl.out).2.1 HO2.out).mono ?_; rintro e w7 ⟨vp, rfl, ho, hb⟩; have HV7 := Aside0.mk ho; have HB7 := Aside0.mk hb; clear ho hb)) | ((with_reducible refine gate_builtin (b := .append) (xs := #[.tmp 75, .tmp 77]) rfl ?_); at_builtin; go_loud (refine Kd.R_append (Kd.int .i64) (w0 := w0) w0.heap.size rfl (.tmp 75) (.tmp 77) 22 3 (.int .i64 0) 8 rfl Try.underlying22 info3 rfl (by decide) (by omega) vp plan (p : Int) [.int .i64 (p : Int)] (fun q => ¬ LdLook.S g1 g2 g3 q) (fun _ => False) rfl rfl ?aP (fun _ hk => hk.elim) ?aF ?aO ?aB ?aS ?aL ?_; (case aP => exact rfl); (case aB => exact ((HB.out.trans (HB6'.out.mono HB.out.size)).trans (HB7.out.mono (Nat.le_trans HB.out.size HB6'.out.size)))); (case aF => exact (fun q hq => (HX.out.below HB6'.out).lt q (Nat.le_trans HB7.out.size hq))); (case aO => exact Kd.R_lower (Kd.R_mono (Kd.R_bound HV7.out) (fun q hq => (HX.out.below HB6'.out).lt q hq.2.1)) (Nat.le_trans HB.out.size HB6'.out.size)); (case aS => exact Nat.le_trans (Nat.le_trans HB.out.size HB6'.out.size) HB7.out.size); (case aL => have := HG.out.2; omega); intro v8 w8 ho hb hg hat; have HB68 := Aside0.mk (HB7.out.grown hg HB7.out.size (fun q hq => Kd.R_base HV7.out q hq)); have HV8 := Aside0.mk ho; have HB8 := Aside0.mk hb; clear ho hb hg hat; obtain ⟨A8, c8, e8⟩ := Kd.R_slice HV8.out; subst e8; have HI := Aside0.mk (LdLook.again (jobs := jobs) (k := k) (plan := plan) (loads := loads) (s1 := s1) (s2 := s2) (p := p) (w8 := w8) (A8 := A8) (c8 := c8) (gn := gn) (cn := cn) (base := wr.heap.size) IH.out HREC.out HB8.out ((HX.out.below HB6'.out).below HB68.out) (Kd.C_below (Kd.C_below HJ.out HB6'.out) HB68.out) HV8.out (Kd.R_below HN6'.out HB68.out) (fun q hq => HX.out.lt q (Kd.R_base HN6'.out q hq))))) | (go_at_call 49; go_loud (refine calls_of_args (args' := #[.slice (some adj) jobs.length c0, .slice A8 (plan ++ [(p : Int)]).length c8, .slice (some ⟨gn, 0, none⟩) loads.length cn, .pointer (some ⟨g1, 0, none⟩), .pointer (some ⟨g2, 0, none⟩), .pointer (some ⟨g3, 0, none⟩)]) (by first | (simp; done) | rfl) ?_; refine HI.out.mono ?_; rintro e w9 ⟨rfl, hbx, hbl, hk⟩; have HX9 := Aside0.mk hbx; have HB9 := Aside0.mk hbl; have HK9 := Aside0.mk hk; clear hbx hbl hk)))
              go_roundg (loads.length - (p + 1))
              case measure => have := HP.out; omega
              case rel =>
                have := HG.out.1
                exact ⟨p + 1, s2, by rw [show wrap64 ((p : Int) + 1) = ((p + 1 : Nat) : Int) from by unfold wrap64; omega], ⟨by omega, by omega⟩, HREST, HX9, HB9, ⟨LdLook.keep_three HK.out HB6'.out HB68.out HK9.out⟩⟩
            · have hltp : ¬ (p : Int) < (loads.length : Int) := by omega
              have hl := HLp.out
              rw [show loads.length - p = 0 from by omega, LdLook.loop] at hl
              obtain rfl := Option.some.inj hl
              clear hl HLp
              go_wp2
              first | go_end0 | ((try simp only [Exit.inBlock, Exit.then]); refine bodyPost_ret (results_none rfl _ _ _) rfl ?_)
              exact ⟨rfl, HX.out, HB.out, HK.out⟩
theorem LdLook.three (w1 : World) (o3 o4 o5 : Obj) : (((w1.alloc o3).alloc o4).alloc o5).heap.size = w1.heap.size + 3 ∧ (((w1.alloc o3).alloc o4).alloc o5).heap[w1.heap.size]? = some o3 ∧ (((w1.alloc o3).alloc o4).alloc o5).heap[w1.heap.size + 1]? = some o4 ∧ (((w1.alloc o3).alloc o4).alloc o5).heap[w1.heap.size + 1 + 1]? = some o5 := by
  have hh : (((w1.alloc o3).alloc o4).alloc o5).heap = ((w1.heap.push o3).push o4).push o5 := rfl
  rw [hh]
  refine ⟨by simp, ?_, ?_, ?_⟩
  · rw [Array.getElem?_push, if_neg (by rw [Array.size_push, Array.size_push]; omega), Array.getElem?_push, if_neg (by rw [Array.size_push]; omega), Array.getElem?_push, if_pos rfl]
  · rw [Array.getElem?_push, if_neg (by rw [Array.size_push, Array.size_push]; omega), Array.getElem?_push, if_pos (by rw [Array.size_push])]
  · rw [Array.getElem?_push, if_pos (by rw [Array.size_push, Array.size_push])]
/-- The call from outside: three new boxes, a new row of loads. -/
theorem LdLook.first {k : Nat} {l0 : List Int} {A0 : Option Addr} {c0 : Nat} {w w1 w6 : World} {t n : Int} {z : Int × List Int × Int} {Al : Option Addr} {cl : Nat} (hr : Kd.C (Kd.int .i64) w A0 l0.length l0) (hc : l0.length ≤ c0) (hb1 : Below w.heap.size w w1)
    (hb6 : Below (((w1.alloc (.cells #[.int .i64 t] 3)).alloc (.cells #[.int .i64 0] 3)).alloc (.cells #[.slice none 0 0] 22)).heap.size (((w1.alloc (.cells #[.int .i64 t] 3)).alloc (.cells #[.int .i64 0] 3)).alloc (.cells #[.slice none 0 0] 22)) w6)
    (hv : Kd.R (Kd.int .i64) 3 w6 (((w1.alloc (.cells #[.int .i64 t] 3)).alloc (.cells #[.int .i64 0] 3)).alloc (.cells #[.slice none 0 0] 22)).heap.size (fun _ => True) (.slice Al (List.replicate n.toNat (0 : Int)).length cl) (List.replicate n.toNat 0)) (h : LdLook.f l0 k [] (List.replicate n.toNat 0) (t, [], 0) = some z) :
    Calls Try.prog 49 #[.slice A0 l0.length c0, .slice none ([] : List Int).length 0, .slice Al (List.replicate n.toNat (0 : Int)).length cl, .pointer (some ⟨w1.heap.size, 0, none⟩), .pointer (some ⟨w1.heap.size + 1 + 1, 0, none⟩), .pointer (some ⟨w1.heap.size + 1, 0, none⟩)] w6 fun e w' => e = .returned (.tuple #[]) ∧ LdLook.Box w w1.heap.size (w1.heap.size + 1 + 1) (w1.heap.size + 1) z w' ∧ Below w.heap.size w w' := by
  have ht := LdLook.three w1 (.cells #[.int .i64 t] 3) (.cells #[.int .i64 0] 3) (.cells #[.slice none 0 0] 22)
  have hs1 := hb1.size
  have hbX : Below w.heap.size w (((w1.alloc (.cells #[.int .i64 t] 3)).alloc (.cells #[.int .i64 0] 3)).alloc (.cells #[.slice none 0 0] 22)) := below_alloc (below_alloc (below_alloc hb1 _) _) _
  generalize (((w1.alloc (.cells #[.int .i64 t] 3)).alloc (.cells #[.int .i64 0] 3)).alloc (.cells #[.slice none 0 0] 22)) = X at *
  obtain ⟨hX0, hX1, hX2, hX3⟩ := ht
  have hb : Below w.heap.size w w6 := hbX.trans (hb6.mono (by omega))
  have hvr := Kd.R_reads' hv
  refine (LdLook.calls l0 A0 c0 w1.heap.size (w1.heap.size + 1 + 1) (w1.heap.size + 1) w ⟨by omega, by omega, by omega, by omega, by omega, by omega⟩ ?_ hc k none 0 [] Al cl (List.replicate n.toNat 0) (t, [], 0) z w6 hb ?_ (Kd.C_below hr hb) (Kd.R_nil _ _ _ _ _) hvr.2.2 hvr.2.1 ?_ h).mono ?_
  · intro ad he hn hS
    obtain ⟨ad', he', hx⟩ := Kd.at_int hr 0 (by omega) (by omega)
    rw [he] at he'
    cases he'
    have := World.block_lt_of_cell? w _ hx
    rw [add_block] at this
    unfold LdLook.S at hS
    omega
  · exact ⟨(hb6.block _ (by omega)).trans hX1, ⟨.slice none 0 0, (hb6.block _ (by omega)).trans hX3, Kd.R_nil _ _ _ _ _⟩, (hb6.block _ (by omega)).trans hX2⟩
  · intro ad he hn hS
    subst he
    have := Kd.R_base hv ad.block (by rfl)
    unfold LdLook.S at hS
    omega
  · rintro e w' ⟨e1, e2, e3, _⟩
    exact ⟨e1, e2, e3⟩
def spec_ldBest.f (k : Nat) (l0 : List Int) (a1 : Int) : Option (List Int × Int × Int) := (spec_hpSum.f k l0).bind fun t => if 0 ≤ a1 then (if (a1 : Int).toNat ≤ 35184372088832 then ((LdLook.f l0 k [] (List.replicate (a1 : Int).toNat 0) (wrap64 (t + 1), [], 0)).bind fun r => some (r.2.1, r.1, r.2.2)) else none) else none
theorem spec_ldBest.mono : ∀ a0 a1 k, LeO (spec_ldBest.f k a0 a1) (spec_ldBest.f (k + 1) a0 a1) := fun a0 a1 k => LeO.bind (spec_hpSum.mono _ _) (fun _ => LeO.ite (LeO.ite (LeO.bind (LdLook.mono a0 k _ _ _) (fun _ => LeO.refl _)) (LeO.refl _)) (LeO.refl _))
set_option maxHeartbeats 1600000 in
set_option maxRecDepth 100000 in
theorem spec_ldBest.calls (k : Nat) (A0 : Option Addr) (c0 : Nat) (l0 : List Int) (a1 : Int) (r1 : List Int) (r2 : Int) (r3 : Int) (w : World) (hr0 : Kd.C (Kd.int .i64) w A0 l0.length l0) (hc0 : l0.length ≤ c0) (h : spec_ldBest.f k l0 a1 = some (r1, r2, r3)) :
    Calls Try.prog 34 #[.slice A0 l0.length c0, .int .i64 a1] w fun e w' => ∃ v0_ : Value, e = .returned (.tuple #[v0_, .int .i64 r2, .int .i64 r3]) ∧ Kd.R (Kd.int .i64) 3 w' w.heap.size (fun _ => True) v0_ r1 ∧ Below w.heap.size w w' := by
  obtain ⟨t, hA, H⟩ := Option.bind_eq_some_iff.mp h
  by_cases h0 : 0 ≤ a1
  case neg => rw [if_neg h0] at H; cases H
  rw [if_pos h0] at H
  by_cases h1 : (a1 : Int).toNat ≤ 35184372088832
  case neg => rw [if_neg h1] at H; cases H
  rw [if_pos h1] at H
  obtain ⟨⟨z1, z2, z3⟩, hL, H⟩ := Option.bind_eq_some_iff.mp H
  cases H
  have HR := Aside0.mk hr0
  have HC := Aside0.mk hc0
  have HA := Aside0.mk hA
  have HL := Aside0.mk hL
  have H0 := Aside0.mk h0
  have H1 := Aside0.mk h1
  clear h hA hL hr0 hc0 h0 h1
  go_enter Try.func34, Try.ntmps34
  go_wp2_with (first | (go_at_call 48; refine (spec_hpSum.calls k A0 c0 l0 t _ HR.out HC.out HA.out).mono ?_; rintro e w1 ⟨rfl, hd⟩; have hb : Below w.heap.size w w1 := (by obtain ⟨nd, rfl⟩ := hd; exact pw_below_drewN (Below.refl _ _) _); have HB1 := Aside0.mk hb; clear hd hb) | ((with_reducible refine gate_dst (N := 15) rfl ?_); refine Kd.R_make (Kd.int .i64) _ 3 rfl (N := 15) rfl 22 _ _ rfl a1 rfl rfl Try.underlying22 (.int .i64 0) 8 info3 rfl (by decide) (by omega) 0 (ok := fun _ => True) (okp := fun _ => True) rfl (fun _ hk => hk) trivial H0.out (Nat.le_trans (Nat.mul_le_mul_right _ H1.out) (by omega)) (Below.refl _ _) (Nat.le_refl _) ?_; intro vl w6 ho hb hg_ hnew_; clear hg_ hnew_; obtain ⟨Al, cl, el⟩ := Kd.R_slice ho; subst el; have HV6 := Aside0.mk ho; have HB6 := Aside0.mk hb; clear ho hb) | (go_at_call 49; go_loud (refine calls_of_args (args' := #[.slice A0 l0.length c0, .slice none ([] : List Int).length 0, .slice Al (List.replicate a1.toNat (0 : Int)).length cl, .pointer (some ⟨w1.heap.size, 0, none⟩), .pointer (some ⟨w1.heap.size + 1 + 1, 0, none⟩), .pointer (some ⟨w1.heap.size + 1, 0, none⟩)]) (by first | (simp; done) | rfl) ?_; refine (LdLook.first (n := a1) HR.out HC.out HB1.out HB6.out HV6.out HL.out).mono ?_; rintro e w9 ⟨rfl, hbx, hbl⟩; obtain ⟨q1, ⟨v9, q2, q2'⟩, q3⟩ := hbx; have y1 := cell_of_one q1; have y2 := cell_of_one q2; have y3 := cell_of_one q3; have HR9 := Aside0.mk (Kd.R_mono q2' (ok' := fun _ => True) (fun _ _ => trivial)); have HB9 := Aside0.mk hbl; clear q1 q2 q2' q3 hbl)))
  go_region
  all_goals (try go_wp2)
  all_goals ((try simp only [Exit.inBlock, Exit.then]); refine bodyPost_ret (results_tmp3 rfl _ _ _) rfl ?_)
  all_goals exact ⟨_, rfl, (by (with_reducible repeat (first | apply Kd.R_alloc | apply Kd.R_drewN | apply Kd.R_drew)); exact HR9.out), (by repeat (first | (with_reducible first | exact HB9.out | apply below_alloc | apply pw_below_drewN | apply below_drew1) | exact HB9.out))⟩

/-! ### spec_CountBestPlans: function 19 -/
def spec_CountBestPlans.f (k : Nat) (l0 : List Int) (a1 : Int) : Option (Int × Bool) := (spec_ldAsked.f k l0 a1).bind fun t121 => (if t121 = true then ((spec_ldBest.f k l0 a1).bind fun bt122 => (some (bt122.2.2, true))) else (some (0, false)))
theorem spec_CountBestPlans.mono : ∀ a0 a1 k, LeO (spec_CountBestPlans.f k a0 a1) (spec_CountBestPlans.f (k + 1) a0 a1) := by
  intro a0 a1 k
  unfold spec_CountBestPlans.f
  repeat' first
      | (with_reducible exact spec_ldAsked.mono _ _ _)
      | (with_reducible exact spec_ldBest.mono _ _ _)
      | (with_reducible exact LeO.refl _)
      | (with_reducible exact LeO.none _)
      | (with_reducible refine LeO.ite ?_ ?_)
      | (with_reducible refine LeO.bind ?_ (fun _ => ?_))
      | exact spec_ldAsked.mono _ _ _
      | exact spec_ldBest.mono _ _ _
      | exact LeO.none _
      | refine LeO.ite ?_ ?_
      | refine LeO.bind ?_ (fun _ => ?_)
set_option maxHeartbeats 8000000 in
set_option maxRecDepth 100000 in
theorem spec_CountBestPlans.calls (k : Nat) (A0 : Option Addr) (c0 : Nat) (l0 : List Int) (a1 : Int) (r1 : Int) (r2 : Bool) (w : World) (hr0 : Kd.C (Kd.int .i64) w A0 l0.length l0) (hc0 : l0.length ≤ c0) (h : spec_CountBestPlans.f k l0 a1 = some (r1, r2)) :
    Calls Try.prog 19 #[.slice A0 l0.length c0, .int .i64 a1] w fun e w' => e = .returned (.tuple #[.int .i64 r1, .bool r2]) ∧ Below w.heap.size w w' := by
  have HR0 := Aside0.mk hr0
  have HC0 := Aside0.mk hc0
  clear hr0 hc0
  have HB := Aside0.mk (Below.refl w.heap.size w)
  have H : ((spec_ldAsked.f k l0 a1).bind fun t121 => (if t121 = true then ((spec_ldBest.f k l0 a1).bind fun bt122 => (some (bt122.2.2, true))) else (some (0, false)))) = some (r1, r2) := h
  clear h
  replace H := Option.bind_eq_some_iff.mp H
  obtain ⟨t121, A30, H⟩ := H
  replace H : (if t121 = true then ((spec_ldBest.f k l0 a1).bind fun bt122 => (some (bt122.2.2, true))) else (some (0, false))) = some (r1, r2) := H
  have A3 := Aside0.mk A30
  clear A30
  by_cases c4 : t121 = true
  · subst c4
    have H1 : ((spec_ldBest.f k l0 a1).bind fun bt122 => (some (bt122.2.2, true))) = some (r1, r2) := by rw [if_pos rfl] at H; exact H
    clear H
    have H := H1
    clear H1
    replace H := Option.bind_eq_some_iff.mp H
    obtain ⟨⟨t122, t123, t124⟩, A50, H⟩ := H
    replace H : (some (t124, true)) = some (r1, r2) := H
    have A5 := Aside0.mk A50
    clear A50
    simp only [Option.some.injEq, Prod.mk.injEq] at H
    obtain ⟨rfl, rfl⟩ := H
    go_enter Try.func19, Try.ntmps19
    go_wp2_with (first | ((with_reducible refine gate_callee (f := 25) rfl ?_); refine goesL_ (some 11) rfl rfl Try.func25 (by kernel_rfl) rfl #[.slice A0 l0.length c0, .int .i64 a1] rfl (by (try simp only [List.map_toArray, List.map_cons, List.map_nil]); first | done | rfl | (simp only [List.length_drop, List.length_take]; rfl)) ?_; (with_reducible refine (spec_ldAsked.calls k _ _ l0 a1 true _ ?side1 ?side2 A3.out).mono ?_); (case side1 => repeat (first | exact HR0.out | (with_reducible refine Kd.C_alloc ?_ _) | (with_reducible refine Kd.C_drewN ?_ _) | (with_reducible refine Kd.C_drew ?_))); (case side2 => exact HC0.out); rintro e w' ⟨rfl, ⟨nd, rfl⟩⟩; refine ⟨_, rfl, ?_⟩) | ((with_reducible refine gate_callee (f := 34) rfl ?_); refine goesL_ (some 16) rfl rfl Try.func34 (by kernel_rfl) rfl #[.slice A0 l0.length c0, .int .i64 a1] rfl (by (try simp only [List.map_toArray, List.map_cons, List.map_nil]); first | done | rfl | (simp only [List.length_drop, List.length_take]; rfl)) ?_; (with_reducible refine (spec_ldBest.calls k _ _ l0 a1 t122 t123 t124 _ ?side1 ?side2 A5.out).mono ?_); (case side1 => repeat (first | exact HR0.out | (with_reducible refine Kd.C_alloc ?_ _) | (with_reducible refine Kd.C_drewN ?_ _) | (with_reducible refine Kd.C_drew ?_))); (case side2 => exact HC0.out); rintro e w6 ⟨v125, rfl, ho0, hb⟩; refine ⟨_, rfl, ?_⟩; have n0_ := Aside0.mk (Kd.R_lower ho0 (below_size (by repeat (first | (with_reducible first | exact HB.out | apply below_alloc | apply pw_below_drewN | apply below_drew1) | exact HB.out)))); have n1_ := Aside0.mk (below_step (by repeat (first | (with_reducible first | exact HB.out | apply below_alloc | apply pw_below_drewN | apply below_drew1) | exact HB.out)) hb); clear HB; have HO126 := n0_; have HB := n1_; clear n0_ n1_; (try clear hb); (try clear hb2); (try clear hk); (try clear hi); (try clear ho0)))
    go_ret2
    exact ⟨by first | rfl | (simp [errW_none, errW_some] <;> rfl) | (simp [*, errW_none, errW_some] <;> rfl), by repeat (first | (with_reducible first | exact HB.out | apply below_alloc | apply pw_below_drewN | apply below_drew1) | exact HB.out)⟩
  · replace c4 := Bool.eq_false_iff.mpr c4
    subst c4
    have H1 : (some (0, false)) = some (r1, r2) := by rw [if_neg (show ¬ (false = true) by decide)] at H; exact H
    clear H
    have H := H1
    clear H1
    simp only [Option.some.injEq, Prod.mk.injEq] at H
    obtain ⟨rfl, rfl⟩ := H
    go_enter Try.func19, Try.ntmps19
    go_wp2_with (first | ((with_reducible refine gate_callee (f := 25) rfl ?_); refine goesL_ (some 11) rfl rfl Try.func25 (by kernel_rfl) rfl #[.slice A0 l0.length c0, .int .i64 a1] rfl (by (try simp only [List.map_toArray, List.map_cons, List.map_nil]); first | done | rfl | (simp only [List.length_drop, List.length_take]; rfl)) ?_; (with_reducible refine (spec_ldAsked.calls k _ _ l0 a1 false _ ?side1 ?side2 A3.out).mono ?_); (case side1 => repeat (first | exact HR0.out | (with_reducible refine Kd.C_alloc ?_ _) | (with_reducible refine Kd.C_drewN ?_ _) | (with_reducible refine Kd.C_drew ?_))); (case side2 => exact HC0.out); rintro e w' ⟨rfl, ⟨nd, rfl⟩⟩; refine ⟨_, rfl, ?_⟩))
    go_ret2
    exact ⟨by first | rfl | (simp [errW_none, errW_some] <;> rfl) | (simp [*, errW_none, errW_some] <;> rfl), by repeat (first | (with_reducible first | exact HB.out | apply below_alloc | apply pw_below_drewN | apply below_drew1) | exact HB.out)⟩

/-! ### impl_listsOf: function 50, by hand -/
/-- A box of a number, of the call's own; below it all is as it was. -/
def LpBox (w0 : World) (b : Nat) (s : Int) (W : World) : Prop := Below w0.heap.size w0 W ∧ W.heap[b]? = some (.cells #[.int .i64 s] 3 (0, 0))
theorem lpBox_mv {w0 : World} {b N : Nat} (hb : w0.heap.size ≤ N) (hlt : b < N) : ∀ s W W1, LpBox w0 b s W → Below N W W1 → LpBox w0 b s W1 := fun s W W1 h k => ⟨h.1.trans (k.mono hb), (k.block b hlt).trans h.2⟩
theorem lpBox_new {w0 W : World} (hB : Below w0.heap.size w0 W) (s u : Int) : LpBox w0 W.heap.size s ((W.alloc (.cells #[.int .i64 u] 3)).setCell ⟨W.heap.size, 0, none⟩ (.int .i64 s)) := by
  refine ⟨(hB.alloc hB.size _).setCell hB.size _, one_setCell (v := .int .i64 u) ?_⟩
  show (W.heap.push _)[W.heap.size]? = _
  simp
theorem lp_lt (W : World) (o : Obj) (p : Addr) (v : Value) : W.heap.size < ((W.alloc o).setCell p v).heap.size := by
  show W.heap.size < ((W.heap.push o).modify _ _).size
  rw [Array.size_modify, Array.size_push]
  omega
theorem lp_made (w : World) (o : Obj) (nd : Nat) : ((w.drewN nd).alloc o).heap[w.heap.size]? = some o := by
  show ((w.drewN nd).heap.push o)[w.heap.size]? = _
  have : (w.drewN nd).heap = w.heap := rfl
  rw [this]
  simp
/-- What a call that heeds one box leaves. -/
def LpStep (W : World) (b : Nat) (s' : Int) (W' : World) : Prop := W'.os = W.os ∧ W'.tape = W.tape ∧ W'.output = W.output ∧ W.heap.size ≤ W'.heap.size ∧ (∀ q, q < W.heap.size → q ≠ b → W'.heap[q]? = W.heap[q]?) ∧ W'.heap[b]? = some (.cells #[.int .i64 s'] 3 (0, 0))
theorem lpStep_store {W W1 : World} {b : Nat} {s s' : Int} (k : Below W.heap.size W W1) (hb : W.heap[b]? = some (.cells #[.int .i64 s] 3 (0, 0))) : LpStep W b s' (W1.setCell ⟨b, 0, none⟩ (.int .i64 s')) := by
  have hs := k.size
  refine ⟨k.os, k.tape, k.output, by simpa [World.setCell] using hs, fun q h1 h2 => ?_, one_setCell ((k.block b (lt_of_block hb)).trans hb)⟩
  rw [Below.heap_setCell _ _ _ _ h2]
  exact k.block q h1
theorem lpStep_stay {W W1 : World} {b : Nat} {s : Int} (k : Below W.heap.size W W1) (hb : W.heap[b]? = some (.cells #[.int .i64 s] 3 (0, 0))) : LpStep W b s W1 :=
  ⟨k.os, k.tape, k.output, k.size, fun q h1 _ => k.block q h1, (k.block b (lt_of_block hb)).trans hb⟩
theorem lpBox_step {w0 W W' : World} {b N : Nat} {s s' : Int} (h : LpBox w0 b s W) (k : LpStep W b s' W') (hw : w0.heap.size ≤ b) (hN : b < N) (hle : N ≤ W.heap.size) :
    LpBox w0 b s' W' ∧ W.heap.size ≤ W'.heap.size ∧ ∀ q, N ≤ q → q < W.heap.size → W'.heap[q]? = W.heap[q]? := by
  obtain ⟨k1, k2, k3, k4, k5, k6⟩ := k
  exact ⟨⟨h.1.trans ⟨k1, k2, k3, k4, fun q hq => k5 q (by omega) (by omega)⟩, k6⟩, k4, fun q h1 h2 => k5 q h2 (by omega)⟩
/-- All blocks but b are as they were. -/
structure KeepO (b : Nat) (W W1 : World) : Prop where
  os : W1.os = W.os
  tape : W1.tape = W.tape
  output : W1.output = W.output
  size : W.heap.size ≤ W1.heap.size
  block : ∀ k, k < W.heap.size → k ≠ b → W1.heap[k]? = W.heap[k]?
theorem KeepO.of {b : Nat} {W W1 : World} (h : Below W.heap.size W W1) : KeepO b W W1 := ⟨h.os, h.tape, h.output, h.size, fun k hk _ => h.block k hk⟩
theorem KeepO.below {b N : Nat} {W W1 : World} (h : KeepO b W W1) (hb : N ≤ b) (hN : N ≤ W.heap.size) : Below N W W1 := ⟨h.os, h.tape, h.output, h.size, fun k hk => h.block k (by omega) (by omega)⟩
/-- Between the calls of a function value: J of the state; J doesn't heed block b, the list's own. -/
structure Aw {σ : Type} (J : Nat → σ → World → Prop) (N b : Nat) (W : World) (s : σ) : Prop where
  size : N ≤ W.heap.size
  ge : N ≤ b
  lt : b < W.heap.size
  mv : ∀ s W W1, N ≤ W.heap.size → J b s W → KeepO b W W1 → J b s W1
  now : J b s W
theorem Aw.go {σ : Type} {J : Nat → σ → World → Prop} {N b : Nat} {W W1 : World} {s : σ} (h : Aw J N b W s) (k : KeepO b W W1) : Aw J N b W1 s := ⟨Nat.le_trans h.size k.size, h.ge, Nat.lt_of_lt_of_le h.lt k.size, h.mv, h.mv _ _ _ h.size h.now k⟩
theorem aw_alloc {σ : Type} {J : Nat → σ → World → Prop} {N b : Nat} {W : World} {s : σ} (h : Aw J N b W s) (o : Obj) : Aw J N b (W.alloc o) s := h.go (.of (below_alloc (Below.refl _ _) o))
theorem aw_drewN {σ : Type} {J : Nat → σ → World → Prop} {N b : Nat} {W : World} {s : σ} (h : Aw J N b W s) (m : Nat) : Aw J N b (W.drewN m) s := h.go (.of (pw_below_drewN (Below.refl _ W) m))
theorem aw_drew1 {σ : Type} {J : Nat → σ → World → Prop} {N b : Nat} {W : World} {s : σ} (h : Aw J N b W s) : Aw J N b W.drew s := h.go (.of (Below.refl _ _).drew)
theorem aw_set {σ : Type} {J : Nat → σ → World → Prop} {N b : Nat} {W : World} {s : σ} {g j : Nat} {v : Value} (h : Aw J N b W s) (hg : g = b) : Aw J N b (W.setCell ⟨g, j, none⟩ v) s := by
  subst hg
  exact h.go ⟨rfl, rfl, rfl, by simp [World.setCell], fun k _ hk => Below.heap_setCell _ _ _ _ hk⟩
theorem goesCL_ {P : Program} {ops : Array Oper} {rest : List Oper} {Q : Exit → Act → World → Prop} {oi : Oper} {a : Act} {w : World} (N : Option Tmp) (hd : oi.dst = N) (hgd : oi.guard = none) {cal : Operand} {xs_ : Array Operand} {ts : Array TypeId} (g : Nat) (lb : Array Value) (eg : ∀ args w, (callFunc g args).run P w = .ok (.enter g args) w) (args : Array Value)
    (hop : oi.op = .call { callee := .value cal, args := xs_, argTypes := ts }) (hcal : a.eval cal = .func (.func g) #[] lb) (hargs : xs_.map a.eval = args)
    (h : Calls P g (args ++ lb) w fun e w' => ∃ v, e = .returned v ∧ wpList P ops Q rest (a.put N v) w') : wpList P ops Q (oi :: rest) a w := by
  refine wpList_plain hgd fun K hK => ?_
  have he := eg (args ++ lb) w
  have hrun : (execOp a.eval oi).run P w = .ok (.enter g (args ++ lb)) w := by
    unfold execOp
    simp [hop, hcal, resolve, Deferred.ofValue, invoke, hargs, he]
  unfold Oper.wp
  rw [hrun, Oper.upon_enter]
  refine h.mono fun e w'' hh => ?_
  obtain ⟨v, rfl, hk⟩ := hh
  rw [hd]
  exact hK _ _ hk
mutual
def impl_listsOf.l0 {σ : Type} (cb : Nat → σ → List Int → Option σ) : Nat → Int → Int → List Int → σ → Option σ
  | 0, _, _, _, _ => none
  | k + 1, x0, x1, x6, s => (cb k s x6).bind fun s2 => (impl_listsOf.l1 cb k x0 x1 x6 (wrap64 (x0 - 1)) s2)
def impl_listsOf.l1 {σ : Type} (cb : Nat → σ → List Int → Option σ) : Nat → Int → Int → List Int → Int → σ → Option σ
  | 0, _, _, _, _, _ => none
  | k + 1, x0, x1, x6, x7, s => if x7 ≥ 0 then (if 0 ≤ x7 then (if x7 < (x6.length : Int) then (if (rd x6 x7) = x1 then (impl_listsOf.l1 cb k x0 x1 (x6.set (x7 : Int).toNat 0) (wrap64 (x7 - 1)) s) else (if x7 < 0 then (some s) else (impl_listsOf.l0 cb k x0 x1 (x6.set (x7 : Int).toNat (wrap64 ((rd x6 x7) + 1))) s))) else (none)) else (none)) else (if x7 < 0 then (some s) else (if 0 ≤ x7 then (if x7 < (x6.length : Int) then (impl_listsOf.l0 cb k x0 x1 (x6.set (x7 : Int).toNat (wrap64 ((rd x6 x7) + 1))) s) else (none)) else (none)))
end
def impl_listsOf.f {σ : Type} (cb : Nat → σ → List Int → Option σ) (k : Nat) (a0 : Int) (a1 : Int) (s : σ) : Option σ := if 0 ≤ a0 then (if (a0 : Int).toNat ≤ 35184372088832 then (impl_listsOf.l0 cb k a0 a1 (List.replicate (a0 : Int).toNat 0) s) else (none)) else (none)
theorem impl_listsOf.mono_l {σ : Type} (cb : Nat → σ → List Int → Option σ) (hcb : ∀ k s l, LeO (cb k s l) (cb (k + 1) s l)) : ∀ k, (∀ y0 y1 y2 y3, LeO (impl_listsOf.l0 cb k y0 y1 y2 y3) (impl_listsOf.l0 cb (k + 1) y0 y1 y2 y3)) ∧ (∀ y0 y1 y2 y3 y4, LeO (impl_listsOf.l1 cb k y0 y1 y2 y3 y4) (impl_listsOf.l1 cb (k + 1) y0 y1 y2 y3 y4))
  | 0 => ⟨fun _ _ _ _ r h => by simp [impl_listsOf.l0] at h, fun _ _ _ _ _ r h => by simp [impl_listsOf.l1] at h⟩
  | k + 1 => by
    obtain ⟨ih0, ih1⟩ := impl_listsOf.mono_l cb hcb k
    refine ⟨?_, ?_⟩
    · intro y0 y1 y2 y3
      unfold impl_listsOf.l0
      exact LeO.bind (hcb _ _ _) (fun _ => ih1 _ _ _ _ _)
    · intro y0 y1 y2 y3 y4
      unfold impl_listsOf.l1
      repeat' first
      | (with_reducible exact ih0 _ _ _ _)
      | (with_reducible exact ih1 _ _ _ _ _)
      | (with_reducible exact LeO.refl _)
      | (with_reducible exact LeO.none _)
      | (with_reducible refine LeO.ite ?_ ?_)
theorem impl_listsOf.mono {σ : Type} (cb : Nat → σ → List Int → Option σ) (hcb : ∀ k s l, LeO (cb k s l) (cb (k + 1) s l)) : ∀ a0 a1 a2 k, LeO (impl_listsOf.f cb k a0 a1 a2) (impl_listsOf.f cb (k + 1) a0 a1 a2) := by
  intro a0 a1 a2 k
  obtain ⟨ih0, ih1⟩ := impl_listsOf.mono_l cb hcb k
  unfold impl_listsOf.f
  exact LeO.ite (LeO.ite (ih0 _ _ _ _) (LeO.none _)) (LeO.none _)
set_option maxHeartbeats 8000000 in
set_option maxRecDepth 100000 in
theorem impl_listsOf.calls {σ : Type} (cb : Nat → σ → List Int → Option σ) (k : Nat) (a0 : Int) (a1 : Int) (g2 : Nat) (b2 : Array Value) (s0 r : σ) (J : Nat → σ → World → Prop) (w : World) (eg : ∀ args w, (callFunc g2 args).run Try.prog w = .ok (.enter g2 args) w)
    (hf : ∀ b k' s s' W (A : Option Addr) (c : Nat) (l : List Int), cb k' s l = some s' → J b s W → w.heap.size ≤ b → b < W.heap.size → Kd.C (Kd.int .i64) W A l.length l → l.length ≤ c → Calls Try.prog g2 (#[.slice A l.length c] ++ b2) W fun e W' => (∃ v, e = .returned v) ∧ J b s' W' ∧ W.heap.size ≤ W'.heap.size ∧ ∀ q, w.heap.size ≤ q → q < W.heap.size → W'.heap[q]? = W.heap[q]?)
    (hmv : ∀ b s W W1, w.heap.size ≤ b → w.heap.size ≤ W.heap.size → J b s W → KeepO b W W1 → J b s W1) (hJ : ∀ b W, w.heap.size ≤ b → Below w.heap.size w W → J b s0 W) (h : impl_listsOf.f cb k a0 a1 s0 = some r) :
    Calls Try.prog 50 #[.int .i64 a0, .int .i64 a1, .func (.func g2) #[] b2] w fun e w' => e = .returned (.tuple #[]) ∧ ∃ b, w.heap.size ≤ b ∧ J b r w' := by
  have HF := Aside0.mk hf
  have EG := Aside0.mk eg
  have HMV := Aside0.mk hmv
  have HJ := Aside0.mk hJ
  clear hf eg hmv hJ
  have HB := Aside0.mk (Below.refl w.heap.size w)
  have H : (if 0 ≤ a0 then (if (a0 : Int).toNat ≤ 35184372088832 then (impl_listsOf.l0 cb k a0 a1 (List.replicate (a0 : Int).toNat 0) s0) else (none)) else (none)) = some r := h
  clear h
  by_cases c4 : 0 ≤ a0
  · rw [if_pos c4] at H
    have c4b0 := eq_true c4
    have c4b1 : decide (0 ≤ a0) = true := decide_eq_true c4
    clear c4
    by_cases c5 : (a0 : Int).toNat ≤ 35184372088832
    · rw [if_pos c5] at H
      have c5b0 := eq_true c5
      have c5b1 : decide ((a0 : Int).toNat ≤ 35184372088832) = true := decide_eq_true c5
      clear c5
      obtain ⟨y101, hy101⟩ : ∃ y_ : List Int, y_ = (List.replicate (a0 : Int).toNat 0) := ⟨_, rfl⟩
      replace H : (impl_listsOf.l0 cb k a0 a1 y101 s0) = some r := by first | (rw [hy101]; with_reducible exact H) | (have H2_ := (Option.bind_some _ _).symm.trans H; rw [hy101]; with_reducible exact H2_) | (have H2_ := (Option.bind_some _ _).symm.trans H; with_reducible exact H2_) | with_reducible exact H | (rw [hy101]; exact H) | exact H
      have Ny101 := Aside0.mk hy101
      clear hy101
      have H' := Aside0.mk H
      clear H
      go_enter Try.func50, Try.ntmps50
      go_wp2_with (first | ((with_reducible refine gate_dst (N := 9) rfl ?_); refine Kd.R_make (Kd.int .i64) _ 3 rfl (N := 9) rfl 22 _ _ rfl a0 rfl rfl Try.underlying22 (.int .i64 0) 8 info3 rfl (by decide) (by omega) 0 (ok := fun _ => True) (okp := fun _ => True) rfl (fun _ hk => hk) trivial (of_decide_eq_true (by first | (with_reducible assumption) | assumption)) (Nat.le_trans (Nat.mul_le_mul_right _ (of_decide_eq_true (by first | (with_reducible assumption) | assumption) : a0.toNat ≤ 35184372088832)) (by omega)) (Below.refl _ _) (Nat.le_refl _) ?_; intro v102 w6 ho7 hb hg_ hnew_; obtain ⟨bb, hb1_, hb2_⟩ := hnew_; have HN := Aside0.mk hb1_; have HNB := Aside0.mk hb2_; clear hg_ hb1_ hb2_; (first | rw [← Ny101.out] at ho7 | (simp only [Int.reduceToNat] at ho7; rw [← Ny101.out] at ho7)); have n0_ := Aside0.mk (Kd.R_lower ho7 (below_size (by repeat (first | (with_reducible first | exact HB.out | apply below_alloc | apply pw_below_drewN | apply below_drew1) | exact HB.out)))); have n1_ := Aside0.mk (below_step (by repeat (first | (with_reducible first | exact HB.out | apply below_alloc | apply pw_below_drewN | apply below_drew1) | exact HB.out)) hb); clear HB; have HO103 := n0_; have HB := n1_; clear n0_ n1_; clear hb ho7))
      go_loopg [] k (fun kq w' => ∃ (s1 : σ) (x6_1 : List Int), Aside0 (impl_listsOf.l0 cb kq a0 a1 x6_1 s1 = some r) ∧ Aside0 (kq ≤ k) ∧ Aside0 (Kd.R (Kd.int .i64) 3 w' w.heap.size (fun _ => True) v102 x6_1) ∧ Aside0 (Aw J w.heap.size bb w' s1))
      case atStart => exact ⟨s0, (y101), H', ⟨Nat.le_refl _⟩, ⟨by (with_reducible repeat (first | apply Kd.R_alloc | apply Kd.R_drewN | apply Kd.R_drew)); exact HO103.out⟩, ⟨Aw.mk HB.out.size (Nat.le_trans (below_size (Below.refl w.heap.size w)) HNB.out) (Kd.R_lt HO103.out bb HN.out) (fun s W W1 h1 h2 h3 => HMV.out bb s W W1 (Nat.le_trans (Nat.le_refl _) HNB.out) h1 h2 h3) (HJ.out bb _ HNB.out (by repeat (first | (with_reducible first | exact HB.out | apply below_alloc | apply pw_below_drewN | apply below_drew1) | exact HB.out)))⟩⟩
      case round =>
        clear H'
        try clear c2
        try clear p2
        try clear c4
        try clear c4b0
        try clear c4b1
        try clear c5
        try clear c5b0
        try clear c5b1
        clear HB
        obtain ⟨s1, x6_1, HA, HK1, HO_6, HB⟩ := hrel
        cases gk with
        | zero => exact absurd HA.out (by simp [impl_listsOf.l0])
        | succ k1 =>
          have H := HA.out
          clear HA
          simp only [impl_listsOf.l0] at H
          replace H := Option.bind_eq_some_iff.mp H
          obtain ⟨s2, A80, H⟩ := H
          replace H : (impl_listsOf.l1 cb k1 a0 a1 x6_1 (wrap64 (a0 - 1)) s2) = some r := H
          have A8 := Aside0.mk A80
          clear A80
          have H' := Aside0.mk H
          clear H
          obtain ⟨Ao9, co9, eo9⟩ := Kd.R_slice HO_6.out
          subst eo9
          go_wp2_with (first | ((with_reducible refine gate_dst (N := 12) rfl ?_); refine goesCL_ (some 12) rfl rfl g2 b2 EG.out #[.slice Ao9 x6_1.length co9] rfl rfl (by (try simp only [List.map_toArray, List.map_cons, List.map_nil]); first | done | rfl) ?_; refine (HF.out bb k1 s1 s2 _ Ao9 co9 x6_1 A8.out HB.out.now HB.out.ge HB.out.lt (Kd.R_reads' HO_6.out).2.2 (Kd.R_reads' HO_6.out).2.1).mono ?_; rintro e w8 ⟨⟨vv, rfl⟩, hj8, hs8, hq8⟩; refine ⟨_, rfl, ?_⟩; have n0_ := Aside0.mk (Kd.R_mono (Kd.R_step (Kd.R_bound HO_6.out) (fun k_ hk_ hl_ => hq8 k_ hk_.2.1 hl_)) (fun _ hk => hk.1)); have n1_ := Aside0.mk (Aw.mk (Nat.le_trans HB.out.size hs8) HB.out.ge (Nat.lt_of_lt_of_le HB.out.lt hs8) HB.out.mv hj8); clear HO_6 HB; have HO_6 := n0_; have HB := n1_; clear n0_ n1_ hj8 hs8 hq8))
          go_loopg [7] k1 (fun kq v7 w' => ∃ (x6_2 : List Int) (x7_2 : Int), v7 = .int .i64 x7_2 ∧ Aside0 (impl_listsOf.l1 cb kq a0 a1 x6_2 x7_2 s2 = some r) ∧ Aside0 (kq ≤ k1) ∧ Aside0 (Kd.R (Kd.int .i64) 3 w' w.heap.size (fun _ => True) (.slice Ao9 x6_1.length co9) x6_2) ∧ Aside0 (Aw J w.heap.size bb w' s2))
          case atStart => exact ⟨(x6_1), (wrap64 (a0 - 1)), (by first | rfl | (simp; done) | (simp [*]; done)), H', ⟨Nat.le_refl _⟩, ⟨by (with_reducible repeat (first | apply Kd.R_alloc | apply Kd.R_drewN | apply Kd.R_drew)); exact HO_6.out⟩, ⟨by repeat (first | (with_reducible first | exact HB.out | apply aw_alloc | apply aw_drewN | apply aw_drew1) | exact HB.out)⟩⟩
          case round =>
            clear H'
            try clear c2
            try clear p2
            try clear c4
            try clear c4b0
            try clear c4b1
            try clear c5
            try clear c5b0
            try clear c5b1
            try clear c6
            try clear p6
            try clear p2
            obtain ⟨x6_2, x7_2, rfl, HA, HK2, HO_6, HB⟩ := hrel
            have hl6_2 := (Kd.R_reads' HO_6.out).1
            rw [hl6_2] at HO_6
            (try simp only [hl6_2])
            cases gk with
            | zero => exact absurd HA.out (by simp [impl_listsOf.l1])
            | succ k2 =>
              have H := HA.out
              clear HA
              simp only [impl_listsOf.l1] at H
              by_cases c10 : x7_2 ≥ 0
              · rw [if_pos c10] at H
                have c10b0 : decide (0 ≤ x7_2) = true := decide_eq_true c10
                clear c10
                by_cases c11 : 0 ≤ x7_2
                · rw [if_pos c11] at H
                  have c11b0 : decide (0 ≤ x7_2) = true := decide_eq_true c11
                  clear c11
                  by_cases c12 : x7_2 < (x6_2.length : Int)
                  · rw [if_pos c12] at H
                    have c12b0 : decide (x7_2 < (x6_2.length : Int)) = true := decide_eq_true c12
                    clear c12
                    by_cases c13 : (rd x6_2 x7_2) = a1
                    · rw [if_pos c13] at H
                      have c13b0 : ((rd x6_2 x7_2) == a1) = true := beq_iff_eq.mpr c13
                      have c13b1 : ((rd x6_2 x7_2) != a1) = false := bne_eq_false_iff_eq.mpr c13
                      clear c13
                      obtain ⟨y106, hy106⟩ : ∃ y_ : List Int, y_ = (x6_2.set (x7_2 : Int).toNat 0) := ⟨_, rfl⟩
                      replace H : (impl_listsOf.l1 cb k2 a0 a1 y106 (wrap64 (x7_2 - 1)) s2) = some r := by first | (rw [hy106]; with_reducible exact H) | (have H2_ := (Option.bind_some _ _).symm.trans H; rw [hy106]; with_reducible exact H2_) | (have H2_ := (Option.bind_some _ _).symm.trans H; with_reducible exact H2_) | with_reducible exact H | (rw [hy106]; exact H) | exact H
                      have Ny106 := Aside0.mk hy106
                      clear hy106
                      have H' := Aside0.mk H
                      clear H
                      have p105 : 0 ≤ (x7_2 : Int) := of_decide_eq_true (by first | (with_reducible assumption) | assumption)
                      have q105 : x7_2 < (x6_2.length : Int) := of_decide_eq_true (by first | (with_reducible assumption) | assumption)
                      obtain ⟨ad105, e105, hx105_0⟩ := Kd.at_int (Kd.R_reads' HO_6.out).2.2 x7_2 p105 q105
                      cases e105
                      replace p105 := eq_true p105
                      replace q105 := eq_true q105
                      have p14 : 0 ≤ (x7_2 : Int) := of_decide_eq_true (by first | (with_reducible assumption) | assumption)
                      have q14 : (x7_2 : Int) < ((x6_2.length : Int) : Int) := of_decide_eq_true (by first | (with_reducible assumption) | assumption)
                      obtain ⟨go14, co14, eo14, gb14, gl14, cl14, HG14⟩ := Kd.R_form HO_6.out (by omega)
                      (first | cases eo14 | (injection eo14 with ea_ en_ ec_; (first | subst ea_ | (injection ea_ with ea_; subst ea_)); subst ec_; clear en_))
                      have GB14 := Aside0.mk gb14
                      have GG14 := Aside0.mk HG14
                      clear gb14 gl14 HG14
                      (first | simp only [add_plain] at hx105_0 | skip)
                      obtain ⟨hx14_0, hf14_0⟩ := Kd.R_celln 0 HO_6.out (x7_2 : Int) p14 q14
                      replace p14 := eq_true p14
                      replace q14 := eq_true q14
                      have HP15 := Kd.R_putg HO_6.out (x7_2 : Int) 0
                      go_wp2_with (first | ((with_reducible refine gate_store (t := 3) (p := 27) rfl ?_); refine store_event (t := 3) (p := 27) (v := ?vo_w16) (w1 := (wr.setCell ⟨go14, (x7_2 : Int).toNat, none⟩ (.int .i64 0))) ?hg ?ho ?hn ?hr ?_; (case ho => rfl); (case hg => rfl); (case hn => rfl); (case hr => first | (go_simp; done) | (go_simp; rfl)); intro w16 hw; have hg : wr.grownBy w16 (some go14) := (by rw [hw]; exact HP15.2); have hp_ : Kd.R (Kd.int .i64) 3 w16 w.heap.size (fun _ => True) (.slice (some ⟨go14, 0, none⟩) x6_2.length co9) y106 := (by rw [hw, Ny106.out]; exact HP15.1); clear HP15; have n0_ := Aside0.mk (hp_); have n1_ := Aside0.mk ((by rw [hw]; exact aw_set (HB.out) (Option.some.inj HN.out) : Aw J w.heap.size bb w16 s2)); clear HO_6; clear HB; have HO_6 := n0_; have HB := n1_; clear n0_ n1_; clear hg hw hp_))
                      (try simp only [← hl6_2])
                      go_roundg k2
                      case measure => have := HK1.out; have := HK2.out; omega
                      case rel => exact ⟨(y106), (wrap64 (x7_2 - 1)), (by first | rfl | (simp; done) | (simp [*]; done)), H', ⟨by have := HK1.out; have := HK2.out; omega⟩, ⟨by (try simp only [hl6_2]); (with_reducible repeat (first | apply Kd.R_alloc | apply Kd.R_drewN | apply Kd.R_drew)); exact HO_6.out⟩, ⟨by repeat (first | (with_reducible first | exact HB.out | apply aw_alloc | apply aw_drewN | apply aw_drew1) | exact HB.out)⟩⟩
                    · rw [if_neg c13] at H
                      have c13b0 : ((rd x6_2 x7_2) == a1) = false := beq_eq_false_iff_ne.mpr c13
                      have c13b1 : ((rd x6_2 x7_2) != a1) = true := bne_iff_ne.mpr c13
                      by_cases c17 : x7_2 < 0
                      · rw [if_pos c17] at H
                        have c17b0 : decide (x7_2 < 0) = true := decide_eq_true c17
                        clear c17
                        have p105 : 0 ≤ (x7_2 : Int) := of_decide_eq_true (by first | (with_reducible assumption) | assumption)
                        have q105 : x7_2 < (x6_2.length : Int) := of_decide_eq_true (by first | (with_reducible assumption) | assumption)
                        obtain ⟨ad105, e105, hx105_0⟩ := Kd.at_int (Kd.R_reads' HO_6.out).2.2 x7_2 p105 q105
                        cases e105
                        replace p105 := eq_true p105
                        replace q105 := eq_true q105
                        cases H
                        go_wp2
                        first | go_end0 | ((try simp only [Exit.inBlock, Exit.then]); refine bodyPost_ret (results_none rfl _ _ _) rfl ?_)
                        exact ⟨by first | rfl | (simp [errW_none, errW_some] <;> rfl) | (simp [*, errW_none, errW_some] <;> rfl), bb, HB.out.ge, (show Aw J w.heap.size bb _ _ by repeat (first | (with_reducible first | exact HB.out | apply aw_alloc | apply aw_drewN | apply aw_drew1) | exact HB.out)).now⟩
                      · rw [if_neg c17] at H
                        have c17b0 : decide (x7_2 < 0) = false := decide_eq_false c17
                        clear c17
                        obtain ⟨y108, hy108⟩ : ∃ y_ : List Int, y_ = (x6_2.set (x7_2 : Int).toNat (wrap64 ((rd x6_2 x7_2) + 1))) := ⟨_, rfl⟩
                        replace H : (impl_listsOf.l0 cb k2 a0 a1 y108 s2) = some r := by first | (rw [hy108]; with_reducible exact H) | (have H2_ := (Option.bind_some _ _).symm.trans H; rw [hy108]; with_reducible exact H2_) | (have H2_ := (Option.bind_some _ _).symm.trans H; with_reducible exact H2_) | with_reducible exact H | (rw [hy108]; exact H) | exact H
                        have Ny108 := Aside0.mk hy108
                        clear hy108
                        have H' := Aside0.mk H
                        clear H
                        have p105 : 0 ≤ (x7_2 : Int) := of_decide_eq_true (by first | (with_reducible assumption) | assumption)
                        have q105 : x7_2 < (x6_2.length : Int) := of_decide_eq_true (by first | (with_reducible assumption) | assumption)
                        obtain ⟨ad105, e105, hx105_0⟩ := Kd.at_int (Kd.R_reads' HO_6.out).2.2 x7_2 p105 q105
                        cases e105
                        replace p105 := eq_true p105
                        replace q105 := eq_true q105
                        have p107 : 0 ≤ (x7_2 : Int) := of_decide_eq_true (by first | (with_reducible assumption) | assumption)
                        have q107 : x7_2 < (x6_2.length : Int) := of_decide_eq_true (by first | (with_reducible assumption) | assumption)
                        obtain ⟨ad107, e107, hx107_0⟩ := Kd.at_int (Kd.R_reads' HO_6.out).2.2 x7_2 p107 q107
                        obtain rfl : ad105 = ad107 := (by injection e107)
                        replace p107 := eq_true p107
                        replace q107 := eq_true q107
                        have p18 : 0 ≤ (x7_2 : Int) := of_decide_eq_true (by first | (with_reducible assumption) | assumption)
                        have q18 : (x7_2 : Int) < ((x6_2.length : Int) : Int) := of_decide_eq_true (by first | (with_reducible assumption) | assumption)
                        obtain ⟨go18, co18, eo18, gb18, gl18, cl18, HG18⟩ := Kd.R_form HO_6.out (by omega)
                        (first | cases eo18 | (injection eo18 with ea_ en_ ec_; (first | subst ea_ | (injection ea_ with ea_; subst ea_)); subst ec_; clear en_))
                        have GB18 := Aside0.mk gb18
                        have GG18 := Aside0.mk HG18
                        clear gb18 gl18 HG18
                        (first | simp only [add_plain] at hx105_0 | skip)
                        (first | simp only [add_plain] at hx107_0 | skip)
                        obtain ⟨hx18_0, hf18_0⟩ := Kd.R_celln 0 HO_6.out (x7_2 : Int) p18 q18
                        replace p18 := eq_true p18
                        replace q18 := eq_true q18
                        have HP19 := Kd.R_putg HO_6.out (x7_2 : Int) (wrap64 ((rd x6_2 x7_2) + 1))
                        go_wp2_with (first | ((with_reducible refine gate_store (t := 3) (p := 37) rfl ?_); refine store_event (t := 3) (p := 37) (v := ?vo_w20) (w1 := (wr.setCell ⟨go18, (x7_2 : Int).toNat, none⟩ (.int .i64 (wrap64 ((rd x6_2 x7_2) + 1))))) ?hg ?ho ?hn ?hr ?_; (case ho => rfl); (case hg => rfl); (case hn => rfl); (case hr => first | (go_simp; done) | (go_simp; rfl)); intro w20 hw; have hg : wr.grownBy w20 (some go18) := (by rw [hw]; exact HP19.2); have hp_ : Kd.R (Kd.int .i64) 3 w20 w.heap.size (fun _ => True) (.slice (some ⟨go18, 0, none⟩) x6_2.length co9) y108 := (by rw [hw, Ny108.out]; exact HP19.1); clear HP19; have n0_ := Aside0.mk (hp_); have n1_ := Aside0.mk ((by rw [hw]; exact aw_set (HB.out) (Option.some.inj HN.out) : Aw J w.heap.size bb w20 s2)); clear HO_6; clear HB; have HO_6 := n0_; have HB := n1_; clear n0_ n1_; clear hg hw hp_))
                        (try simp only [← hl6_2])
                        go_roundg k2
                        case measure => have := HK1.out; have := HK2.out; omega
                        case rel => exact ⟨s2, (y108), H', ⟨by have := HK1.out; have := HK2.out; omega⟩, ⟨by (try simp only [hl6_2]); (with_reducible repeat (first | apply Kd.R_alloc | apply Kd.R_drewN | apply Kd.R_drew)); exact HO_6.out⟩, ⟨by repeat (first | (with_reducible first | exact HB.out | apply aw_alloc | apply aw_drewN | apply aw_drew1) | exact HB.out)⟩⟩
                  · rw [if_neg c12] at H
                    exact absurd H (by simp)
                · rw [if_neg c11] at H
                  exact absurd H (by simp)
              · rw [if_neg c10] at H
                have c10b0 : decide (0 ≤ x7_2) = false := decide_eq_false c10
                clear c10
                by_cases c21 : x7_2 < 0
                · rw [if_pos c21] at H
                  have c21b0 : decide (x7_2 < 0) = true := decide_eq_true c21
                  clear c21
                  cases H
                  go_wp2
                  first | go_end0 | ((try simp only [Exit.inBlock, Exit.then]); refine bodyPost_ret (results_none rfl _ _ _) rfl ?_)
                  exact ⟨by first | rfl | (simp [errW_none, errW_some] <;> rfl) | (simp [*, errW_none, errW_some] <;> rfl), bb, HB.out.ge, (show Aw J w.heap.size bb _ _ by repeat (first | (with_reducible first | exact HB.out | apply aw_alloc | apply aw_drewN | apply aw_drew1) | exact HB.out)).now⟩
                · rw [if_neg c21] at H
                  have c21b0 : decide (x7_2 < 0) = false := decide_eq_false c21
                  clear c21
                  by_cases c22 : 0 ≤ x7_2
                  · exact absurd c22 (of_decide_eq_false c10b0)
                  · rw [if_neg c22] at H
                    exact absurd H (by simp)
    · rw [if_neg c5] at H
      exact absurd H (by simp)
  · rw [if_neg c4] at H
    exact absurd H (by simp)


/-! ### impl_within: function 40 -/
def impl_within.f (a0 : Int) (a1 : Int) (a2 : Int) : Option (Bool) := if a0 ≥ a1 then (some (decide (a0 ≤ a2))) else (some false)
set_option maxHeartbeats 8000000 in
set_option maxRecDepth 100000 in
theorem impl_within.calls (a0 : Int) (a1 : Int) (a2 : Int) (r : Bool) (w : World) (h : impl_within.f a0 a1 a2 = some r) :
    Calls Try.prog 40 #[.int .i64 a0, .int .i64 a1, .int .i64 a2] w fun e w' => e = .returned (.bool r) ∧ Drawn0 w w' := by
  have H : (if a0 ≥ a1 then (some (decide (a0 ≤ a2))) else (some false)) = some r := h
  clear h
  by_cases c4 : a0 ≥ a1
  · rw [if_pos c4] at H
    have c4b0 : decide (a1 ≤ a0) = true := decide_eq_true c4
    clear c4
    obtain rfl := Option.some.inj H
    go_enter Try.func40, Try.ntmps40
    go_wp2
    go_ret
    exact ⟨by first | rfl | (simp; done) | (simp [*]; done), by repeat (first | exact Drawn0.refl _ | apply Drawn0.step)⟩
  · rw [if_neg c4] at H
    have c4b0 : decide (a1 ≤ a0) = false := decide_eq_false c4
    clear c4
    obtain rfl := Option.some.inj H
    go_enter Try.func40, Try.ntmps40
    go_wp2
    go_ret
    exact ⟨by first | rfl | (simp; done) | (simp [*]; done), by repeat (first | exact Drawn0.refl _ | apply Drawn0.step)⟩

/-! ### impl_areIn: function 47, by hand -/
def impl_areIn.f (l0 : List Int) (a1 a2 : Int) : Option Bool := some (l0.all fun x => decide (a1 ≤ x ∧ x ≤ a2))
/-- 'p' is what the closure g, bound to lb, tells of a whole number, in every world that came out of w. -/
def AreIn.Tells (g : Nat) (lb : Array Value) (p : Int → Bool) (w : World) : Prop :=
  ∀ (W : World) (x : Int), Below w.heap.size w W → Calls Try.prog g (#[.int .i64 x] ++ lb) W fun e w' => e = .returned (.bool (p x)) ∧ Drawn0 W w'
theorem AreIn.any_rd {p : Int → Bool} {l : List Int} {k : Nat} (hk : k < l.length) (h : p (rd l (k : Int)) = true) : l.any p = true := by
  rw [List.any_eq_true]
  refine ⟨rd l (k : Int), ?_, h⟩
  unfold rd
  rw [Int.toNat_natCast, List.getD_eq_getElem?_getD, List.getElem?_eq_getElem hk]
  exact List.getElem_mem hk
theorem AreIn.any_none {p : Int → Bool} {l : List Int} (h : ∀ j : Nat, j < l.length → p (rd l (j : Int)) = false) : l.any p = false := by
  rw [List.any_eq_false]
  intro x hx
  obtain ⟨j, hj, rfl⟩ := List.getElem_of_mem hx
  have := h j hj
  unfold rd at this
  rw [Int.toNat_natCast, List.getD_eq_getElem?_getD, List.getElem?_eq_getElem hj] at this
  simpa using this
def AreIn.IdxPost (r : Bool) (w : World) (e : Ending) (w' : World) : Prop := ∃ i : Int, (e = .returned (.int .i64 i) ∧ decide (0 ≤ i) = r) ∧ Drawn0 w w'
set_option maxHeartbeats 2000000 in
theorem AreIn.index (p : Int → Bool) (g : Nat) (lb : Array Value) (eg : ∀ args w, (callFunc g args).run Try.prog w = .ok (.enter g args) w) (A0 : Option Addr) (c0 : Nat) (l0 : List Int) (w : World)
    (hr0 : Kd.C (Kd.int .i64) w A0 l0.length l0) (hp : AreIn.Tells g lb p w) :
    Calls Try.prog 63 #[.slice A0 l0.length c0, .func (.func g) #[] lb] w (AreIn.IdxPost (l0.any p) w) := by
  have hm := hr0.2.1
  have hpAt : ∀ (x : Int) (q : Nat), Calls Try.prog g (#[.int .i64 x] ++ lb) (w.drewN q) fun e w' => e = .returned (.bool (p x)) ∧ Drawn0 (w.drewN q) w' := fun x q => hp _ x (pw_below_drewN (Below.refl _ w) q)
  clear hp
  have HR := Aside0.mk hr0
  clear hr0
  go_enter Try.func63, Try.ntmps63
  go_wp2
  go_loopg [5, 8] l0.length (fun gg _ s8 wr => ∃ kk q : Nat, kk ≤ l0.length ∧ l0.length - kk ≤ gg ∧ s8 = .int .i64 kk ∧ wr = w.drewN q ∧ Aside0 (∀ j : Nat, j < kk → p (rd l0 (j : Int)) = false))
  case atStart => exact ⟨0, 0, Nat.zero_le _, by omega, rfl, rfl, ⟨fun j hj => absurd hj (Nat.not_lt_zero _)⟩⟩
  case round =>
    obtain ⟨kk, q, hkk, hg, rfl, rfl, A⟩ := hrel
    by_cases hlt : kk < l0.length
    · have hltz : (kk : Int) < (l0.length : Int) := by omega
      obtain ⟨ad, rfl, hcell⟩ := Kd.at_int HR.out (kk : Int) (by omega) hltz
      rw [Int.toNat_natCast] at hcell
      generalize hy : rd l0 (kk : Int) = y at hcell
      have B := Aside0.mk hy
      clear hy
      have hcall := hpAt y
      cases hq : p y with
      | true =>
        rw [hq] at hcall
        go_wp2_with (go_at_fn g; refine (hcall _).mono ?_; rintro e w' ⟨rfl, ⟨q', rfl⟩⟩)
        go_ret
        refine ⟨_, ⟨rfl, ?_⟩, ⟨_, rfl⟩⟩
        rw [AreIn.any_rd hlt (by rw [B.out]; exact hq)]
        exact decide_eq_true (by omega)
      | false =>
        rw [hq] at hcall
        go_wp2_with (go_at_fn g; refine (hcall _).mono ?_; rintro e w' ⟨rfl, ⟨q', rfl⟩⟩)
        go_roundg (l0.length - (kk + 1))
        case measure => omega
        case rel =>
          refine ⟨kk + 1, _, by omega, by omega, by go_num, rfl, ⟨fun j hj => ?_⟩⟩
          by_cases e : j = kk
          · subst e
            rw [B.out]; exact hq
          · exact A.out j (by omega)
    · have hltz : ¬ (kk : Int) < (l0.length : Int) := by omega
      go_wp2
      go_ret
      refine ⟨_, ⟨rfl, ?_⟩, ⟨_, rfl⟩⟩
      rw [AreIn.any_none (fun j hj => A.out j (by omega))]
      rfl
set_option maxHeartbeats 2000000 in
theorem AreIn.contains (p : Int → Bool) (g : Nat) (lb : Array Value) (eg : ∀ args w, (callFunc g args).run Try.prog w = .ok (.enter g args) w) (A0 : Option Addr) (c0 : Nat) (l0 : List Int) (w : World)
    (hr0 : Kd.C (Kd.int .i64) w A0 l0.length l0) (hp : AreIn.Tells g lb p w) :
    Calls Try.prog 56 #[.slice A0 l0.length c0, .func (.func g) #[] lb] w fun e w' => e = .returned (.bool (l0.any p)) ∧ Drawn0 w w' := by
  have HI := Aside0.mk (AreIn.index p g lb eg A0 c0 l0 w hr0 hp)
  clear hp hr0
  generalize l0.any p = r at *
  go_enter Try.func56, Try.ntmps56
  go_wp2_with (go_at_call 63; refine HI.out.mono ?_; rintro e w' ⟨i, ⟨rfl, hi⟩, ⟨q, rfl⟩⟩)
  go_ret
  exact ⟨rfl, ⟨q, rfl⟩⟩
theorem AreIn.closure (b1 b2 : Nat) (a1 a2 : Int) (w : World) (h1 : b1 < w.heap.size) (h2 : b2 < w.heap.size) (hc1 : w.cell? ⟨b1, 0, none⟩ = some (.int .i64 a1)) (hc2 : w.cell? ⟨b2, 0, none⟩ = some (.int .i64 a2)) :
    AreIn.Tells 57 #[.pointer (some ⟨b1, 0, none⟩), .pointer (some ⟨b2, 0, none⟩)] (fun x => !(decide (a1 ≤ x ∧ x ≤ a2))) w := by
  intro W x hb
  have hd1 : W.cell? ⟨b1, 0, none⟩ = some (.int .i64 a1) := (hb.cell (p := ⟨b1, 0, none⟩) h1).trans hc1
  have hd2 : W.cell? ⟨b2, 0, none⟩ = some (.int .i64 a2) := (hb.cell (p := ⟨b2, 0, none⟩) h2).trans hc2
  clear hc1 hc2 h1 h2 hb
  show Calls Try.prog 57 #[.int .i64 x, .pointer (some ⟨b1, 0, none⟩), .pointer (some ⟨b2, 0, none⟩)] W fun e w' => e = .returned (.bool (!(decide (a1 ≤ x ∧ x ≤ a2)))) ∧ Drawn0 W w'
  have HF : impl_within.f x a1 a2 = some (decide (a1 ≤ x ∧ x ≤ a2)) := by
    unfold impl_within.f
    by_cases h : x ≥ a1
    · rw [if_pos h]; simp [h]
    · rw [if_neg h]; simp [h]
  have HW := Aside0.mk (fun W => impl_within.calls x a1 a2 _ W HF)
  clear HF
  generalize decide (a1 ≤ x ∧ x ≤ a2) = r at *
  go_enter Try.func57, Try.ntmps57
  go_wp2_with (go_at_call 40; refine (HW.out _).mono ?_; rintro e w' ⟨rfl, ⟨q, rfl⟩⟩)
  go_ret
  exact ⟨rfl, ⟨q, rfl⟩⟩
theorem AreIn.all_any (l : List Int) (q : Int → Bool) : (!(l.any fun x => !(q x))) = l.all q := by
  induction l with
  | nil => rfl
  | cons a l ih => simp only [List.any_cons, List.all_cons, Bool.not_or, Bool.not_not, ih]
set_option maxHeartbeats 2000000 in
theorem impl_areIn.calls (A0 : Option Addr) (c0 : Nat) (l0 : List Int) (a1 a2 : Int) (r : Bool) (w : World) (hr0 : Kd.C (Kd.int .i64) w A0 l0.length l0) (hc0 : l0.length ≤ c0) (h : impl_areIn.f l0 a1 a2 = some r) :
    Calls Try.prog 47 #[.slice A0 l0.length c0, .int .i64 a1, .int .i64 a2] w fun e w' => e = .returned (.bool r) ∧ Below w.heap.size w w' := by
  have hr : r = l0.all fun x => decide (a1 ≤ x ∧ x ≤ a2) := by unfold impl_areIn.f at h; exact (Option.some.inj h).symm
  subst hr
  clear h
  have eg : ∀ args w, (callFunc 57 args).run Try.prog w = .ok (.enter 57 args) w := enters_of Try.func57 (by kernel_rfl) rfl
  have hW := Aside0.mk (AreIn.contains (fun x => !(decide (a1 ≤ x ∧ x ≤ a2))) 57 #[.pointer (some ⟨w.heap.size, 0, none⟩), .pointer (some ⟨w.heap.size + 1, 0, none⟩)] eg A0 c0 l0
    ((w.alloc (.cells #[.int .i64 a1] 3)).alloc (.cells #[.int .i64 a2] 3)) (Kd.C_alloc (Kd.C_alloc hr0 _) _) (AreIn.closure _ _ a1 a2 _ (by simp; omega) (by simp) (by simp) (by simp)))
  have hB := Aside0.mk (((Below.refl w.heap.size w).alloc (Nat.le_refl _) (.cells #[.int .i64 a1] 3)).alloc (by simp) (.cells #[.int .i64 a2] 3))
  rw [← AreIn.all_any]
  generalize (l0.any fun x => !(decide (a1 ≤ x ∧ x ≤ a2))) = r at *
  clear hr0 eg
  go_enter Try.func47, Try.ntmps47
  go_wp2_with (go_at_call 56; refine hW.out.mono ?_; rintro e w' ⟨rfl, ⟨q, rfl⟩⟩)
  go_ret
  exact ⟨rfl, pw_below_drewN hB.out q⟩

/-! ### impl_AreJobs: function 39 -/
def impl_AreJobs.f (l0 : List Int) : Option (Bool) := (impl_within.f (l0.length : Int) 1 9).bind fun t127 => (if t127 = true then ((impl_areIn.f l0 1 1000).bind fun t128 => (some t128)) else (some false))
set_option maxHeartbeats 8000000 in
set_option maxRecDepth 100000 in
theorem impl_AreJobs.calls (A0 : Option Addr) (c0 : Nat) (l0 : List Int) (r : Bool) (w : World) (hr0 : Kd.C (Kd.int .i64) w A0 l0.length l0) (hc0 : l0.length ≤ c0) (h : impl_AreJobs.f l0 = some r) :
    Calls Try.prog 39 #[.slice A0 l0.length c0] w fun e w' => e = .returned (.bool r) ∧ Below w.heap.size w w' := by
  have HR0 := Aside0.mk hr0
  have HC0 := Aside0.mk hc0
  clear hr0 hc0
  have HB := Aside0.mk (Below.refl w.heap.size w)
  have H : ((impl_within.f (l0.length : Int) 1 9).bind fun t127 => (if t127 = true then ((impl_areIn.f l0 1 1000).bind fun t128 => (some t128)) else (some false))) = some r := h
  clear h
  replace H := Option.bind_eq_some_iff.mp H
  obtain ⟨t127, A20, H⟩ := H
  replace H : (if t127 = true then ((impl_areIn.f l0 1 1000).bind fun t128 => (some t128)) else (some false)) = some r := H
  have A2 := Aside0.mk A20
  clear A20
  by_cases c3 : t127 = true
  · subst c3
    have H1 : ((impl_areIn.f l0 1 1000).bind fun t128 => (some t128)) = some r := by rw [if_pos rfl] at H; exact H
    clear H
    have H := H1
    clear H1
    replace H := Option.bind_eq_some_iff.mp H
    obtain ⟨t128, A40, H⟩ := H
    replace H : (some t128) = some r := H
    have A4 := Aside0.mk A40
    clear A40
    obtain rfl := Option.some.inj H
    go_enter Try.func39, Try.ntmps39
    go_wp2_with (first | ((with_reducible refine gate_callee (f := 40) rfl ?_); refine goesL_ (some 5) rfl rfl Try.func40 (by kernel_rfl) rfl #[.int .i64 (l0.length : Int), .int .i64 1, .int .i64 9] rfl (by (try simp only [List.map_toArray, List.map_cons, List.map_nil]); first | done | rfl | (simp only [List.length_drop, List.length_take]; rfl)) ?_; (with_reducible refine (impl_within.calls (l0.length : Int) 1 9 true _ A2.out).mono ?_); rintro e w' ⟨rfl, ⟨nd, rfl⟩⟩; refine ⟨_, rfl, ?_⟩) | (go_at_call 47; (with_reducible refine (impl_areIn.calls _ _ l0 1 1000 t128 _ ?side1 ?side2 A4.out).mono ?_); (case side1 => repeat (first | exact HR0.out | (with_reducible refine Kd.C_alloc ?_ _) | (with_reducible refine Kd.C_drewN ?_ _) | (with_reducible refine Kd.C_drew ?_))); (case side2 => exact HC0.out); rintro e w5 ⟨rfl, hb⟩; have n0_ := Aside0.mk (below_step (by repeat (first | (with_reducible first | exact HB.out | apply below_alloc | apply pw_below_drewN | apply below_drew1) | exact HB.out)) hb); clear HB; have HB := n0_; clear n0_; (try clear hb); (try clear hb2); (try clear hk); (try clear hi)))
    go_ret
    exact ⟨by first | rfl | (simp [errW_none, errW_some] <;> rfl) | (simp [*, errW_none, errW_some] <;> rfl), by repeat (first | (with_reducible first | exact HB.out | apply below_alloc | apply pw_below_drewN | apply below_drew1) | exact HB.out)⟩
  · replace c3 := Bool.eq_false_iff.mpr c3
    subst c3
    have H1 : (some false) = some r := by rw [if_neg (show ¬ (false = true) by decide)] at H; exact H
    clear H
    have H := H1
    clear H1
    obtain rfl := Option.some.inj H
    go_enter Try.func39, Try.ntmps39
    go_wp2_with (first | ((with_reducible refine gate_callee (f := 40) rfl ?_); refine goesL_ (some 5) rfl rfl Try.func40 (by kernel_rfl) rfl #[.int .i64 (l0.length : Int), .int .i64 1, .int .i64 9] rfl (by (try simp only [List.map_toArray, List.map_cons, List.map_nil]); first | done | rfl | (simp only [List.length_drop, List.length_take]; rfl)) ?_; (with_reducible refine (impl_within.calls (l0.length : Int) 1 9 false _ A2.out).mono ?_); rintro e w' ⟨rfl, ⟨nd, rfl⟩⟩; refine ⟨_, rfl, ?_⟩))
    go_ret
    exact ⟨by first | rfl | (simp [errW_none, errW_some] <;> rfl) | (simp [*, errW_none, errW_some] <;> rfl), by repeat (first | (with_reducible first | exact HB.out | apply below_alloc | apply pw_below_drewN | apply below_drew1) | exact HB.out)⟩

end Go.Proofs.Yteneeeepocefaaa.PFnExactCountBestPlans
