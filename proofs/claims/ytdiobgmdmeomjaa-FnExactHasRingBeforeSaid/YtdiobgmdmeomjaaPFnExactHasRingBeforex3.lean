-- Written by a program of this session (wip/tool/myprint.py) over the translation. Not trusted: Lean checks it.
import Derived.Test.YtdiobgmdmeomjaaPFnExactHasRingBeforex0
import Derived.Test.YtdiobgmdmeomjaaPFnExactHasRingBeforex1
import Derived.Test.YtdiobgmdmeomjaaPFnExactHasRingBeforex2
namespace Go.Proofs.Ytdiobgmdmeomjaa.PFnExactHasRingBefore
open Go.RowKit Go.Proofs.YtdiobgmdmeomjaaW.PrintWords Go.Proofs.YtdiobgmdmeomjaaW.PrintLast Go.Proofs.YtdiobgmdmeomjaaW.PrintMore
attribute [local go_sem] max2_int min2_int max_two min_two max_three min_three max_four min_four   -- for this text's walks alone
set_option linter.unusedVariables false
set_option linter.unusedSimpArgs false

/-! ### spec_riBefore: function 42, by hand -/
theorem RI.old {α : Type} {d : Kd α} {e base : Nat} {W W1 : World} {ok : Nat → Prop} {v v' : Value} {xs : List α} (h : d.R e W base ok v xs) (hg : W.grownBy W1 none) (hn : ∃ b, v'.ownBlock = some b ∧ W.heap.size ≤ b) : d.R e W1 base (fun k => ok k ∧ some k ≠ v'.ownBlock) v xs :=
  Kd.R_mono (Kd.R_grown (Kd.R_bound h) hg (fun _ _ => by simp)) (fun k hk => ⟨hk.1, fun e => by
    obtain ⟨b, hb, hle⟩ := hn
    rw [hb] at e
    injection e with e
    have := hk.2.2.1
    omega⟩)
theorem RI.row {α : Type} {d : Kd α} {e base n c : Nat} {W : World} {ok : Nat → Prop} {A : Option Addr} {xs : List α} (h : d.R e W base ok (.slice A n c) xs) : ReadsRow (fun x cs => d.M W base ok x cs) d.sz W A n xs ∧ n = xs.length ∧ n ≤ c := by
  obtain ⟨hn, hc, _⟩ := Kd.R_reads' h
  obtain ⟨_, inner, ho, hr⟩ := h
  obtain ⟨A', c', he, hR⟩ := own_reads_row ho (hr.imp_ (fun p cs hp => d.M_mono (fun k hk => hk.1) hp)) rfl
  injection he with h1 h2 h3
  subst h1
  rw [hn]
  exact ⟨hR, rfl, by omega⟩
theorem RI.take {α : Type} {d : Kd α} {e base n c m : Nat} {W : World} {ok : Nat → Prop} {A : Option Addr} {xs : List α} (h : d.R e W base ok (.slice A n c) xs) (hm : m ≤ n) : ReadsRow (fun x cs => d.M W base ok x cs) d.sz W A m (xs.take m) := by
  obtain ⟨hR, hn, _⟩ := RI.row h
  refine ⟨by rw [List.length_take]; omega, by have := hR.2.1; omega, fun hp => ?_⟩
  obtain ⟨ad, e, hc⟩ := hR.2.2 (by omega)
  refine ⟨ad, e, fun j p hj => hc j p ?_⟩
  rw [List.getElem?_take] at hj
  split at hj
  · exact hj
  · cases hj
theorem RI.drop {α : Type} {d : Kd α} {e base n c m : Nat} {W : World} {ok : Nat → Prop} {A : Option Addr} {xs : List α} (h : d.R e W base ok (.slice A n c) xs) (hm : m ≤ n) (h1 : d.sz = 1 := by rfl) : ReadsRow (fun x cs => d.M W base ok x cs) d.sz W (if c = m then A else A.map (·.add (m * 1))) (n - m) (xs.drop m) := by
  obtain ⟨hR, hn, hnc⟩ := RI.row h
  refine ⟨by rw [List.length_drop]; omega, by have := hR.2.1; omega, fun hp => ?_⟩
  obtain ⟨ad, e, hc⟩ := hR.2.2 (by omega)
  subst e
  rw [if_neg (by omega)]
  refine ⟨_, rfl, fun j p hj => ?_⟩
  rw [List.getElem?_drop] at hj
  obtain ⟨cs, hl, hM, hcell⟩ := hc (m + j) p hj
  refine ⟨cs, hl, hM, fun i u hu => ?_⟩
  have := hcell i u hu
  rw [h1] at this ⊢
  have e : (ad.add (m * 1)).add (j * 1 + i) = ad.add ((m + j) * 1 + i) := by
    by_cases e1 : m = 0 <;> by_cases e2 : j * 1 + i = 0 <;> simp [Addr.add, e1, e2, Nat.add_assoc] <;> omega
  rw [e]
  exact this
mutual
def spec_riBefore.l0 : Nat → List Int → List (List Int) → Int → Option ((List (List Int)))
  | 0, _, _, _ => none
  | k + 1, x0, x3, x4 => if x4 < (shl .i64 1 (x0.length : Int)) then (spec_riBefore.l1 k x0 x3 x4 (([0] : List Int)) x0 (x0.length : Int) 0) else (some x3)
def spec_riBefore.l1 : Nat → List Int → List (List Int) → Int → List Int → List Int → Int → Int → Option ((List (List Int)))
  | 0, _, _, _, _, _, _, _ => none
  | k + 1, x0, x3, x4, x5, x24, x25, x26 => if x26 < x25 then (if 0 ≤ x26 then (if x26 < (x24.length : Int) then (if (Go.bits .and .i64 (shr .i64 x4 x26) 1) = 1 then (if x26 < (x5.length : Int) then (if x5.length < 17592186044416 then (spec_riBefore.l1 k x0 x3 x4 (x5 ++ [wrap64 ((rd x5 x26) + (wrap64 (-(rd x24 x26))))]) x24 x25 (wrap64 (x26 + 1))) else (none)) else (none)) else (if x26 < (x5.length : Int) then (if x5.length < 17592186044416 then (spec_riBefore.l1 k x0 x3 x4 (x5 ++ [wrap64 ((rd x5 x26) + (rd x24 x26))]) x24 x25 (wrap64 (x26 + 1))) else (none)) else (none))) else (none)) else (none)) else (if 0 ≤ (x0.length : Int) then (if (x0.length : Int) < (x5.length : Int) then (if (rd x5 (x0.length : Int)) = 0 then (spec_riBefore.l2 k x0 x3 x4 x5 0 x5 (x5.length : Int) 0) else (spec_riBefore.l0 k x0 x3 (wrap64 (x4 + 1)))) else (none)) else (none))
def spec_riBefore.l2 : Nat → List Int → List (List Int) → Int → List Int → Int → List Int → Int → Int → Option ((List (List Int)))
  | 0, _, _, _, _, _, _, _, _ => none
  | k + 1, x0, x3, x4, x5, x8, x54, x55, x56 => if x56 < x55 then (if 0 ≤ x56 then (if x56 < (x54.length : Int) then ((spec_l1Least.f x8 (rd x54 x56)).bind fun t121 => (spec_riBefore.l2 k x0 x3 x4 x5 t121 x54 x55 (wrap64 (x56 + 1)))) else (none)) else (none)) else (if 0 ≤ (x0.length : Int) then (if (x0.length : Int) ≤ (x5.length : Int) then ((some (x5.take ((x0.length : Int) : Int).toNat : List Int)).bind fun y122 => (spec_riBefore.l3 k x0 x3 x4 x8 ([] : List Int) y122 (y122.length : Int) 0)) else (none)) else (none))
def spec_riBefore.l3 : Nat → List Int → List (List Int) → Int → Int → List Int → List Int → Int → Int → Option ((List (List Int)))
  | 0, _, _, _, _, _, _, _, _ => none
  | k + 1, x0, x3, x4, x8, x11, x67, x68, x69 => if x69 < x68 then (if 0 ≤ x69 then (if x69 < (x67.length : Int) then (if x11.length < 17592186044416 then (spec_riBefore.l3 k x0 x3 x4 x8 (x11 ++ [wrap64 ((rd x67 x69) - x8)]) x67 x68 (wrap64 (x69 + 1))) else (none)) else (none)) else (none)) else (spec_riBefore.l4 k x0 x3 x4 x11 0)
def spec_riBefore.l4 : Nat → List Int → List (List Int) → Int → List Int → Int → Option ((List (List Int)))
  | 0, _, _, _, _, _ => none
  | k + 1, x0, x3, x4, x11, x14 => if x14 < (x3.length : Int) then (if 0 ≤ x14 then ((spec_riLess.f k (rd_L1 x3 x14) x11).bind fun t131 => (if t131 = true then (spec_riBefore.l4 k x0 x3 x4 x11 (wrap64 (x14 + 1))) else ((spec_l1Same.f k (rd_L1 x3 x14) x11).bind fun t133 => (if t133 = true then (spec_riBefore.l0 k x0 x3 (wrap64 (x4 + 1))) else (if x3.length < 5864062014805 then (spec_riBefore.l0 k x0 (x3.take (x14 : Int).toNat ++ [x11] ++ x3.drop (x14 : Int).toNat) (wrap64 (x4 + 1))) else (none)))))) else (none)) else (if x14 = (x3.length : Int) then (if x3.length < 5864062014805 then (spec_riBefore.l0 k x0 (x3.take (x14 : Int).toNat ++ [x11] ++ x3.drop (x14 : Int).toNat) (wrap64 (x4 + 1))) else (none)) else (none))
end
def spec_riBefore.f (k : Nat) (l0 : List Int) : Option ((List (List Int))) := spec_riBefore.l0 k l0 ([] : List (List Int)) 0
theorem spec_riBefore.mono_l : ∀ k, (∀ y0 y1 y2, LeO (spec_riBefore.l0 k y0 y1 y2) (spec_riBefore.l0 (k + 1) y0 y1 y2)) ∧ (∀ y0 y1 y2 y3 y4 y5 y6, LeO (spec_riBefore.l1 k y0 y1 y2 y3 y4 y5 y6) (spec_riBefore.l1 (k + 1) y0 y1 y2 y3 y4 y5 y6)) ∧ (∀ y0 y1 y2 y3 y4 y5 y6 y7, LeO (spec_riBefore.l2 k y0 y1 y2 y3 y4 y5 y6 y7) (spec_riBefore.l2 (k + 1) y0 y1 y2 y3 y4 y5 y6 y7)) ∧ (∀ y0 y1 y2 y3 y4 y5 y6 y7, LeO (spec_riBefore.l3 k y0 y1 y2 y3 y4 y5 y6 y7) (spec_riBefore.l3 (k + 1) y0 y1 y2 y3 y4 y5 y6 y7)) ∧ (∀ y0 y1 y2 y3 y4, LeO (spec_riBefore.l4 k y0 y1 y2 y3 y4) (spec_riBefore.l4 (k + 1) y0 y1 y2 y3 y4))
  | 0 => ⟨fun _ _ _ r h => by simp [spec_riBefore.l0] at h, fun _ _ _ _ _ _ _ r h => by simp [spec_riBefore.l1] at h, fun _ _ _ _ _ _ _ _ r h => by simp [spec_riBefore.l2] at h, fun _ _ _ _ _ _ _ _ r h => by simp [spec_riBefore.l3] at h, fun _ _ _ _ _ r h => by simp [spec_riBefore.l4] at h⟩
  | k + 1 => by
    obtain ⟨ih0, ih1, ih2, ih3, ih4⟩ := spec_riBefore.mono_l k
    refine ⟨?_, ?_, ?_, ?_, ?_⟩
    · intro y0 y1 y2
      unfold spec_riBefore.l0
      repeat' first
      | (with_reducible exact ih0 _ _ _)
      | (with_reducible exact ih1 _ _ _ _ _ _ _)
      | (with_reducible exact ih2 _ _ _ _ _ _ _ _)
      | (with_reducible exact ih3 _ _ _ _ _ _ _ _)
      | (with_reducible exact ih4 _ _ _ _ _)
      | (with_reducible exact spec_l1Same.mono _ _ _)
      | (with_reducible exact spec_riLess.mono _ _ _)
      | (with_reducible exact LeO.refl _)
      | (with_reducible exact LeO.none _)
      | (with_reducible refine LeO.ite ?_ ?_)
      | (with_reducible refine LeO.bind ?_ (fun _ => ?_))
      | exact ih0 _ _ _
      | exact ih1 _ _ _ _ _ _ _
      | exact ih2 _ _ _ _ _ _ _ _
      | exact ih3 _ _ _ _ _ _ _ _
      | exact ih4 _ _ _ _ _
      | exact spec_l1Same.mono _ _ _
      | exact spec_riLess.mono _ _ _
      | exact LeO.none _
      | refine LeO.ite ?_ ?_
      | refine LeO.bind ?_ (fun _ => ?_)
    · intro y0 y1 y2 y3 y4 y5 y6
      unfold spec_riBefore.l1
      repeat' first
      | (with_reducible exact ih0 _ _ _)
      | (with_reducible exact ih1 _ _ _ _ _ _ _)
      | (with_reducible exact ih2 _ _ _ _ _ _ _ _)
      | (with_reducible exact ih3 _ _ _ _ _ _ _ _)
      | (with_reducible exact ih4 _ _ _ _ _)
      | (with_reducible exact spec_l1Same.mono _ _ _)
      | (with_reducible exact spec_riLess.mono _ _ _)
      | (with_reducible exact LeO.refl _)
      | (with_reducible exact LeO.none _)
      | (with_reducible refine LeO.ite ?_ ?_)
      | (with_reducible refine LeO.bind ?_ (fun _ => ?_))
      | exact ih0 _ _ _
      | exact ih1 _ _ _ _ _ _ _
      | exact ih2 _ _ _ _ _ _ _ _
      | exact ih3 _ _ _ _ _ _ _ _
      | exact ih4 _ _ _ _ _
      | exact spec_l1Same.mono _ _ _
      | exact spec_riLess.mono _ _ _
      | exact LeO.none _
      | refine LeO.ite ?_ ?_
      | refine LeO.bind ?_ (fun _ => ?_)
    · intro y0 y1 y2 y3 y4 y5 y6 y7
      unfold spec_riBefore.l2
      repeat' first
      | (with_reducible exact ih0 _ _ _)
      | (with_reducible exact ih1 _ _ _ _ _ _ _)
      | (with_reducible exact ih2 _ _ _ _ _ _ _ _)
      | (with_reducible exact ih3 _ _ _ _ _ _ _ _)
      | (with_reducible exact ih4 _ _ _ _ _)
      | (with_reducible exact spec_l1Same.mono _ _ _)
      | (with_reducible exact spec_riLess.mono _ _ _)
      | (with_reducible exact LeO.refl _)
      | (with_reducible exact LeO.none _)
      | (with_reducible refine LeO.ite ?_ ?_)
      | (with_reducible refine LeO.bind ?_ (fun _ => ?_))
      | exact ih0 _ _ _
      | exact ih1 _ _ _ _ _ _ _
      | exact ih2 _ _ _ _ _ _ _ _
      | exact ih3 _ _ _ _ _ _ _ _
      | exact ih4 _ _ _ _ _
      | exact spec_l1Same.mono _ _ _
      | exact spec_riLess.mono _ _ _
      | exact LeO.none _
      | refine LeO.ite ?_ ?_
      | refine LeO.bind ?_ (fun _ => ?_)
    · intro y0 y1 y2 y3 y4 y5 y6 y7
      unfold spec_riBefore.l3
      repeat' first
      | (with_reducible exact ih0 _ _ _)
      | (with_reducible exact ih1 _ _ _ _ _ _ _)
      | (with_reducible exact ih2 _ _ _ _ _ _ _ _)
      | (with_reducible exact ih3 _ _ _ _ _ _ _ _)
      | (with_reducible exact ih4 _ _ _ _ _)
      | (with_reducible exact spec_l1Same.mono _ _ _)
      | (with_reducible exact spec_riLess.mono _ _ _)
      | (with_reducible exact LeO.refl _)
      | (with_reducible exact LeO.none _)
      | (with_reducible refine LeO.ite ?_ ?_)
      | (with_reducible refine LeO.bind ?_ (fun _ => ?_))
      | exact ih0 _ _ _
      | exact ih1 _ _ _ _ _ _ _
      | exact ih2 _ _ _ _ _ _ _ _
      | exact ih3 _ _ _ _ _ _ _ _
      | exact ih4 _ _ _ _ _
      | exact spec_l1Same.mono _ _ _
      | exact spec_riLess.mono _ _ _
      | exact LeO.none _
      | refine LeO.ite ?_ ?_
      | refine LeO.bind ?_ (fun _ => ?_)
    · intro y0 y1 y2 y3 y4
      unfold spec_riBefore.l4
      repeat' first
      | (with_reducible exact ih0 _ _ _)
      | (with_reducible exact ih1 _ _ _ _ _ _ _)
      | (with_reducible exact ih2 _ _ _ _ _ _ _ _)
      | (with_reducible exact ih3 _ _ _ _ _ _ _ _)
      | (with_reducible exact ih4 _ _ _ _ _)
      | (with_reducible exact spec_l1Same.mono _ _ _)
      | (with_reducible exact spec_riLess.mono _ _ _)
      | (with_reducible exact LeO.refl _)
      | (with_reducible exact LeO.none _)
      | (with_reducible refine LeO.ite ?_ ?_)
      | (with_reducible refine LeO.bind ?_ (fun _ => ?_))
      | exact ih0 _ _ _
      | exact ih1 _ _ _ _ _ _ _
      | exact ih2 _ _ _ _ _ _ _ _
      | exact ih3 _ _ _ _ _ _ _ _
      | exact ih4 _ _ _ _ _
      | exact spec_l1Same.mono _ _ _
      | exact spec_riLess.mono _ _ _
      | exact LeO.none _
      | refine LeO.ite ?_ ?_
      | refine LeO.bind ?_ (fun _ => ?_)
theorem spec_riBefore.mono : ∀ a0 k, LeO (spec_riBefore.f k a0) (spec_riBefore.f (k + 1) a0) := by
  intro a0 k
  obtain ⟨ih0, ih1, ih2, ih3, ih4⟩ := spec_riBefore.mono_l k
  unfold spec_riBefore.f
  repeat' first
      | (with_reducible exact ih0 _ _ _)
      | (with_reducible exact ih1 _ _ _ _ _ _ _)
      | (with_reducible exact ih2 _ _ _ _ _ _ _ _)
      | (with_reducible exact ih3 _ _ _ _ _ _ _ _)
      | (with_reducible exact ih4 _ _ _ _ _)
      | (with_reducible exact spec_l1Same.mono _ _ _)
      | (with_reducible exact spec_riLess.mono _ _ _)
      | (with_reducible exact LeO.refl _)
      | (with_reducible exact LeO.none _)
      | (with_reducible refine LeO.ite ?_ ?_)
      | (with_reducible refine LeO.bind ?_ (fun _ => ?_))
      | exact ih0 _ _ _
      | exact ih1 _ _ _ _ _ _ _
      | exact ih2 _ _ _ _ _ _ _ _
      | exact ih3 _ _ _ _ _ _ _ _
      | exact ih4 _ _ _ _ _
      | exact spec_l1Same.mono _ _ _
      | exact spec_riLess.mono _ _ _
      | exact LeO.none _
      | refine LeO.ite ?_ ?_
      | refine LeO.bind ?_ (fun _ => ?_)
set_option maxHeartbeats 8000000 in
set_option maxRecDepth 100000 in
theorem spec_riBefore.calls (k : Nat) (A0 : Option Addr) (c0 : Nat) (l0 : List Int) (r : List (List Int)) (w : World) (hr0 : Kd.C (Kd.int .i64) w A0 l0.length l0) (hc0 : l0.length ≤ c0) (h : spec_riBefore.f k l0 = some r) :
    Calls Try.prog 42 #[.slice A0 l0.length c0] w fun e w' => ∃ v0_ : Value, e = .returned (v0_) ∧ Kd.R (Kd.slice 3 (Kd.int .i64)) 22 w' w.heap.size (fun _ => True) v0_ r ∧ Below w.heap.size w w' := by
  have HR0 := Aside0.mk hr0
  have HC0 := Aside0.mk hc0
  clear hr0 hc0
  have HB := Aside0.mk (Below.refl w.heap.size w)
  have H : (spec_riBefore.l0 k l0 ([] : List (List Int)) 0) = some r := h
  clear h
  have H' := Aside0.mk H
  clear H
  go_enter Try.func42, Try.ntmps42
  go_wp2
  go_loopg [3, 4] k (fun kq v3 v4 w' => ∃ (x3_1 : List (List Int)) (x4_1 : Int), v4 = .int .i64 x4_1 ∧ Aside0 (spec_riBefore.l0 kq l0 x3_1 x4_1 = some r) ∧ Aside0 (kq ≤ k) ∧ Aside0 (Kd.R (Kd.slice 3 (Kd.int .i64)) 22 w' w.heap.size (fun _ => True) v3 x3_1) ∧ Aside0 (Below w.heap.size w w'))
  case atStart => exact ⟨(([] : List (List Int))), (0), (by first | rfl | (simp; done) | (simp [*]; done)), H', ⟨Nat.le_refl _⟩, ⟨by first | exact Kd.R_nil _ _ _ _ _⟩, ⟨by repeat (first | (with_reducible first | exact HB.out | apply below_alloc | apply pw_below_drewN | apply below_drew1) | exact HB.out)⟩⟩
  case round =>
    clear H'
    obtain ⟨x3_1, x4_1, rfl, HA, HK1, HO_3, HB⟩ := hrel
    cases gk with
    | zero => exact absurd HA.out (by simp [spec_riBefore.l0])
    | succ k1 =>
      have H := HA.out
      clear HA
      simp only [spec_riBefore.l0] at H
      obtain ⟨ji2, hji2⟩ : ∃ j_ : Int, (shl .i64 1 (l0.length : Int)) = j_ := ⟨_, rfl⟩
      replace H : (if x4_1 < (ji2) then (spec_riBefore.l1 k1 l0 x3_1 x4_1 (([0] : List Int)) l0 (l0.length : Int) 0) else (some x3_1)) = some r := by first | (rw [hji2] at H; exact H) | (simp only [hji2] at H ⊢; exact H)
      have hji2_ : (IntKind.i64.wrap (1 * 2 ^ min (l0.length : Int).toNat 64)) = ji2 := hji2
      have hji2z : (l0.length : Int) ≤ 64 → (IntKind.i64.wrap (1 * 2 ^ (l0.length : Int).toNat)) = ji2 := shl_small hji2
      have hji2p : (IntKind.i64.wrap (1 * 2 ^ min l0.length 64)) = ji2 := hji2_
      have hji2q : (l0.length : Int) ≤ 64 → (IntKind.i64.wrap (1 * 2 ^ l0.length)) = ji2 := hji2z
      have hji2r : (IntKind.i64.wrap (2 ^ min l0.length 64)) = ji2 := by have h_ := hji2p; rw [Int.one_mul] at h_; exact h_
      have hji2s : (l0.length : Int) ≤ 64 → (IntKind.i64.wrap (2 ^ l0.length)) = ji2 := fun hle_ => by have h_ := hji2q hle_; rw [Int.one_mul] at h_; exact h_
      have hji2u : (IntKind.i64.wrap (2 ^ min (l0.length : Int).toNat 64)) = ji2 := by have h_ := hji2_; rw [Int.one_mul] at h_; exact h_
      have hji2v : (l0.length : Int) ≤ 64 → (IntKind.i64.wrap (2 ^ (l0.length : Int).toNat)) = ji2 := fun hle_ => by have h_ := hji2z hle_; rw [Int.one_mul] at h_; exact h_
      have hji2y : (wrap64 (1 * 2 ^ min (l0.length : Int).toNat 64)) = ji2 := (i64_w _).symm.trans hji2_
      have hji2x : (l0.length : Int) ≤ 64 → (wrap64 (1 * 2 ^ (l0.length : Int).toNat)) = ji2 := fun h_ => (i64_w _).symm.trans (hji2z h_)
      by_cases c3 : x4_1 < (ji2)
      · rw [if_pos c3] at H
        have c3b0 : decide (x4_1 < (ji2)) = true := decide_eq_true c3
        clear c3
        obtain ⟨y107, hy107⟩ : ∃ y_ : List Int, y_ = (([0] : List Int)) := ⟨_, rfl⟩
        replace H : (spec_riBefore.l1 k1 l0 x3_1 x4_1 y107 l0 (l0.length : Int) 0) = some r := by first | (rw [hy107]; with_reducible exact H) | (have H2_ := (Option.bind_some _ _).symm.trans H; rw [hy107]; with_reducible exact H2_) | (have H2_ := (Option.bind_some _ _).symm.trans H; with_reducible exact H2_) | with_reducible exact H | (rw [hy107]; exact H) | exact H
        have Ny107 := Aside0.mk hy107
        clear hy107
        have H' := Aside0.mk H
        clear H
        go_wp2_with (first | ((with_reducible refine gate_dst (N := 23) rfl ?_); refine Kd.R_lit (Kd.int .i64) _ 3 ?hg (N := 23) ?hd (xs := ([0] : List Int)) (inner := [.int .i64 0]) (ok := fun _ => True) (okp := fun _ => True) ?hr ?hp (fun _ hk => hk) trivial (Below.refl _ _) (Nat.le_refl _) (by simp) ?_; (case hd => rfl); (case hg => rfl); (case hr => first | (go_simp; done) | (go_simp; rfl)); (case hp => exact (Reps.one (show Kd.M (Kd.int .i64) _ _ _ 0 [.int .i64 0] from rfl) (Reps.none _ _))); intro v108 w4 ho5 hb hg_ hnew_; clear hg_ hnew_; (first | rw [← Ny107.out] at ho5 | (simp only [Int.reduceToNat] at ho5; rw [← Ny107.out] at ho5)); have n0_ := Aside0.mk (Kd.R_elder' (by (with_reducible repeat (first | apply Kd.R_alloc | apply Kd.R_drewN | apply Kd.R_drew)); exact HO_3.out) (Kd.R_base ho5) hb); have n1_ := Aside0.mk (Kd.R_lower ho5 (below_size (by repeat (first | (with_reducible first | exact HB.out | apply below_alloc | apply pw_below_drewN | apply below_drew1) | exact HB.out)))); have n2_ := Aside0.mk (below_step (by repeat (first | (with_reducible first | exact HB.out | apply below_alloc | apply pw_below_drewN | apply below_drew1) | exact HB.out)) hb); clear HO_3; clear HB; have HO_3 := n0_; have HO109 := n1_; have HB := n2_; clear n0_ n1_ n2_; clear hb ho5))
        go_loopg [5, 26] k1 (fun kq v5 v26 w' => ∃ (x5_2 : List Int) (x26_2 : Int), v26 = .int .i64 x26_2 ∧ Aside0 (spec_riBefore.l1 kq l0 x3_1 x4_1 x5_2 l0 (l0.length : Int) x26_2 = some r) ∧ Aside0 (kq ≤ k1) ∧ Aside0 (Kd.R (Kd.slice 3 (Kd.int .i64)) 22 w' w.heap.size (fun k_ => some k_ ≠ (v5 : Value).ownBlock) u3 x3_1) ∧ Aside0 (Kd.R (Kd.int .i64) 3 w' w.heap.size (fun _ => True) v5 x5_2) ∧ Aside0 (Below w.heap.size w w'))
        case atStart => exact ⟨(y107), (0), (by first | rfl | (simp; done) | (simp [*]; done)), H', ⟨Nat.le_refl _⟩, ⟨by (with_reducible repeat (first | apply Kd.R_alloc | apply Kd.R_drewN | apply Kd.R_drew)); exact Kd.R_mono HO_3.out (fun _ hk => hk.2)⟩, ⟨by (with_reducible repeat (first | apply Kd.R_alloc | apply Kd.R_drewN | apply Kd.R_drew)); exact HO109.out⟩, ⟨by repeat (first | (with_reducible first | exact HB.out | apply below_alloc | apply pw_below_drewN | apply below_drew1) | exact HB.out)⟩⟩
        case round =>
          clear H'
          try clear p2
          try clear c3
          try clear c3b0
          try clear c4
          obtain ⟨x5_2, x26_2, rfl, HA, HK2, HO_3, HO_5, HB⟩ := hrel
          cases gk with
          | zero => exact absurd HA.out (by simp [spec_riBefore.l1])
          | succ k2 =>
            have H := HA.out
            clear HA
            simp only [spec_riBefore.l1] at H
            by_cases c6 : x26_2 < (l0.length : Int)
            · rw [if_pos c6] at H
              have c6b0 : decide (x26_2 < (l0.length : Int)) = true := decide_eq_true c6
              clear c6
              by_cases c7 : 0 ≤ x26_2
              · rw [if_pos c7] at H
                have c7b0 : decide (0 ≤ x26_2) = true := decide_eq_true c7
                clear c7
                by_cases c8 : x26_2 < (l0.length : Int)
                · rw [if_pos c8] at H
                  have c8b0 : decide (x26_2 < (l0.length : Int)) = true := decide_eq_true c8
                  clear c8
                  have c9b0 := eq_true (of_decide_eq_true (by first | (with_reducible assumption) | assumption) : 0 ≤ x26_2)
                  obtain ⟨ji10, hji10⟩ : ∃ j_ : Int, (shr .i64 x4_1 x26_2) = j_ := ⟨_, rfl⟩
                  replace H : (if (Go.bits .and .i64 (ji10) 1) = 1 then (if x26_2 < (x5_2.length : Int) then (if x5_2.length < 17592186044416 then (spec_riBefore.l1 k2 l0 x3_1 x4_1 (x5_2 ++ [wrap64 ((rd x5_2 x26_2) + (wrap64 (-(rd l0 x26_2))))]) l0 (l0.length : Int) (wrap64 (x26_2 + 1))) else (none)) else (none)) else (if x26_2 < (x5_2.length : Int) then (if x5_2.length < 17592186044416 then (spec_riBefore.l1 k2 l0 x3_1 x4_1 (x5_2 ++ [wrap64 ((rd x5_2 x26_2) + (rd l0 x26_2))]) l0 (l0.length : Int) (wrap64 (x26_2 + 1))) else (none)) else (none))) = some r := by first | (rw [hji10] at H; exact H) | (simp only [hji10] at H ⊢; exact H)
                  have hji10_ : (x4_1 / 2 ^ min x26_2.toNat 64) = ji10 := hji10
                  have hji10z : x26_2 ≤ 64 → (x4_1 / 2 ^ x26_2.toNat) = ji10 := shr_small hji10
                  by_cases c11 : (Go.bits .and .i64 (ji10) 1) = 1
                  · rw [if_pos c11] at H
                    have c11b0 : ((Go.bits .and .i64 (ji10) 1) == 1) = true := beq_iff_eq.mpr c11
                    have c11b1 : ((Go.bits .and .i64 (ji10) 1) != 1) = false := bne_eq_false_iff_eq.mpr c11
                    clear c11
                    by_cases c12 : x26_2 < (x5_2.length : Int)
                    · rw [if_pos c12] at H
                      have c12b0 : decide (x26_2 < (x5_2.length : Int)) = true := decide_eq_true c12
                      clear c12
                      by_cases c13 : x5_2.length < 17592186044416
                      · rw [if_pos c13] at H
                        have LMc13 := Aside0.mk c13
                        clear c13
                        obtain ⟨y112, hy112⟩ : ∃ y_ : List Int, y_ = (x5_2 ++ [wrap64 ((rd x5_2 x26_2) + (wrap64 (-(rd l0 x26_2))))]) := ⟨_, rfl⟩
                        replace H : (spec_riBefore.l1 k2 l0 x3_1 x4_1 y112 l0 (l0.length : Int) (wrap64 (x26_2 + 1))) = some r := by first | (rw [hy112]; with_reducible exact H) | (have H2_ := (Option.bind_some _ _).symm.trans H; rw [hy112]; with_reducible exact H2_) | (have H2_ := (Option.bind_some _ _).symm.trans H; with_reducible exact H2_) | with_reducible exact H | (rw [hy112]; exact H) | exact H
                        have Ny112 := Aside0.mk hy112
                        clear hy112
                        have H' := Aside0.mk H
                        clear H
                        have p110 : 0 ≤ (x26_2 : Int) := of_decide_eq_true (by first | (with_reducible assumption) | assumption)
                        have q110 : x26_2 < (l0.length : Int) := of_decide_eq_true (by first | (with_reducible assumption) | assumption)
                        obtain ⟨ad110, e110, hx110_0⟩ := Kd.at_int HR0.out x26_2 p110 q110
                        cases e110
                        replace hx110_0 := (HB.out.cell (World.block_lt_of_cell? w _ hx110_0)).trans hx110_0
                        replace p110 := eq_true p110
                        replace q110 := eq_true q110
                        obtain ⟨Ao14, co14, eo14⟩ := Kd.R_slice HO_5.out
                        subst eo14
                        have p111 : 0 ≤ (x26_2 : Int) := of_decide_eq_true (by first | (with_reducible assumption) | assumption)
                        have q111 : x26_2 < (x5_2.length : Int) := of_decide_eq_true (by first | (with_reducible assumption) | assumption)
                        obtain ⟨ad111, e111, hx111_0⟩ := Kd.at_int (Kd.R_reads' HO_5.out).2.2 x26_2 p111 q111
                        cases e111
                        replace p111 := eq_true p111
                        replace q111 := eq_true q111
                        go_wp2_with (first | ((with_reducible refine gate_builtin (b := .append) (xs := #[.tmp 38, .tmp 45]) rfl ?_); at_builtin; refine Kd.R_append (Kd.int .i64) (w0 := w) w.heap.size rfl (.tmp 38) (.tmp 45) 22 3 (.int .i64 0) 8 rfl Try.underlying22 info3 rfl (by decide) (by omega) (.slice (some ad111) x5_2.length co14) x5_2 (wrap64 ((rd x5_2 x26_2) + (wrap64 (-(rd l0 x26_2))))) [.int .i64 (wrap64 ((rd x5_2 x26_2) + (wrap64 (-(rd l0 x26_2)))))] (fun _ => True) (fun _ => False) rfl rfl ?aP (fun _ hk => hk.elim) ?aF ?aO ?aB ?aS ?aL ?_; (case aP => exact rfl); (case aB => exact (by repeat (first | (with_reducible first | exact HB.out | apply below_alloc | apply pw_below_drewN | apply below_drew1) | exact HB.out))); (case aF => exact (fun _ _ => trivial)); (case aO => exact (by (with_reducible repeat (first | apply Kd.R_alloc | apply Kd.R_drewN | apply Kd.R_drew)); exact HO_5.out)); (case aS => exact (below_size (by repeat (first | (with_reducible first | exact HB.out | apply below_alloc | apply pw_below_drewN | apply below_drew1) | exact HB.out)))); (case aL => have := LMc13.out; omega); intro v113 w15 ho hb hg hat; rw [← Ny112.out] at ho; have n0_ := Aside0.mk (Kd.R_after (ok := (fun _ => True)) (by (with_reducible repeat (first | apply Kd.R_alloc | apply Kd.R_drewN | apply Kd.R_drew)); exact Kd.R_mono HO_3.out (fun _ hk => ⟨trivial, hk⟩)) hg hat); have n1_ := Aside0.mk (hb); have n2_ := Aside0.mk (ho); clear HO_3; clear HB; clear HO_5; have HO_3 := n0_; have HB := n1_; have HO114 := n2_; clear n0_ n1_ n2_; clear ho hb hg hat))
                        go_roundg k2
                        case measure => have := HK1.out; have := HK2.out; omega
                        case rel => exact ⟨(y112), (wrap64 (x26_2 + 1)), (by first | rfl | (simp; done) | (simp [*]; done)), H', ⟨by have := HK1.out; have := HK2.out; omega⟩, ⟨by (with_reducible repeat (first | apply Kd.R_alloc | apply Kd.R_drewN | apply Kd.R_drew)); exact Kd.R_mono HO_3.out (fun _ hk => hk.2)⟩, ⟨by (with_reducible repeat (first | apply Kd.R_alloc | apply Kd.R_drewN | apply Kd.R_drew)); exact HO114.out⟩, ⟨by repeat (first | (with_reducible first | exact HB.out | apply below_alloc | apply pw_below_drewN | apply below_drew1) | exact HB.out)⟩⟩
                      · rw [if_neg c13] at H
                        exact absurd H (by simp)
                    · rw [if_neg c12] at H
                      exact absurd H (by simp)
                  · rw [if_neg c11] at H
                    have c11b0 : ((Go.bits .and .i64 (ji10) 1) == 1) = false := beq_eq_false_iff_ne.mpr c11
                    have c11b1 : ((Go.bits .and .i64 (ji10) 1) != 1) = true := bne_iff_ne.mpr c11
                    by_cases c16 : x26_2 < (x5_2.length : Int)
                    · rw [if_pos c16] at H
                      have c16b0 : decide (x26_2 < (x5_2.length : Int)) = true := decide_eq_true c16
                      clear c16
                      by_cases c17 : x5_2.length < 17592186044416
                      · rw [if_pos c17] at H
                        have LMc17 := Aside0.mk c17
                        clear c17
                        obtain ⟨y116, hy116⟩ : ∃ y_ : List Int, y_ = (x5_2 ++ [wrap64 ((rd x5_2 x26_2) + (rd l0 x26_2))]) := ⟨_, rfl⟩
                        replace H : (spec_riBefore.l1 k2 l0 x3_1 x4_1 y116 l0 (l0.length : Int) (wrap64 (x26_2 + 1))) = some r := by first | (rw [hy116]; with_reducible exact H) | (have H2_ := (Option.bind_some _ _).symm.trans H; rw [hy116]; with_reducible exact H2_) | (have H2_ := (Option.bind_some _ _).symm.trans H; with_reducible exact H2_) | with_reducible exact H | (rw [hy116]; exact H) | exact H
                        have Ny116 := Aside0.mk hy116
                        clear hy116
                        have H' := Aside0.mk H
                        clear H
                        have p110 : 0 ≤ (x26_2 : Int) := of_decide_eq_true (by first | (with_reducible assumption) | assumption)
                        have q110 : x26_2 < (l0.length : Int) := of_decide_eq_true (by first | (with_reducible assumption) | assumption)
                        obtain ⟨ad110, e110, hx110_0⟩ := Kd.at_int HR0.out x26_2 p110 q110
                        cases e110
                        replace hx110_0 := (HB.out.cell (World.block_lt_of_cell? w _ hx110_0)).trans hx110_0
                        replace p110 := eq_true p110
                        replace q110 := eq_true q110
                        obtain ⟨Ao18, co18, eo18⟩ := Kd.R_slice HO_5.out
                        subst eo18
                        have p115 : 0 ≤ (x26_2 : Int) := of_decide_eq_true (by first | (with_reducible assumption) | assumption)
                        have q115 : x26_2 < (x5_2.length : Int) := of_decide_eq_true (by first | (with_reducible assumption) | assumption)
                        obtain ⟨ad115, e115, hx115_0⟩ := Kd.at_int (Kd.R_reads' HO_5.out).2.2 x26_2 p115 q115
                        cases e115
                        replace p115 := eq_true p115
                        replace q115 := eq_true q115
                        go_wp2_with (first | ((with_reducible refine gate_builtin (b := .append) (xs := #[.tmp 38, .tmp 45]) rfl ?_); at_builtin; refine Kd.R_append (Kd.int .i64) (w0 := w) w.heap.size rfl (.tmp 38) (.tmp 45) 22 3 (.int .i64 0) 8 rfl Try.underlying22 info3 rfl (by decide) (by omega) (.slice (some ad115) x5_2.length co18) x5_2 (wrap64 ((rd x5_2 x26_2) + (rd l0 x26_2))) [.int .i64 (wrap64 ((rd x5_2 x26_2) + (rd l0 x26_2)))] (fun _ => True) (fun _ => False) rfl rfl ?aP (fun _ hk => hk.elim) ?aF ?aO ?aB ?aS ?aL ?_; (case aP => exact rfl); (case aB => exact (by repeat (first | (with_reducible first | exact HB.out | apply below_alloc | apply pw_below_drewN | apply below_drew1) | exact HB.out))); (case aF => exact (fun _ _ => trivial)); (case aO => exact (by (with_reducible repeat (first | apply Kd.R_alloc | apply Kd.R_drewN | apply Kd.R_drew)); exact HO_5.out)); (case aS => exact (below_size (by repeat (first | (with_reducible first | exact HB.out | apply below_alloc | apply pw_below_drewN | apply below_drew1) | exact HB.out)))); (case aL => have := LMc17.out; omega); intro v117 w19 ho hb hg hat; rw [← Ny116.out] at ho; have n0_ := Aside0.mk (Kd.R_after (ok := (fun _ => True)) (by (with_reducible repeat (first | apply Kd.R_alloc | apply Kd.R_drewN | apply Kd.R_drew)); exact Kd.R_mono HO_3.out (fun _ hk => ⟨trivial, hk⟩)) hg hat); have n1_ := Aside0.mk (hb); have n2_ := Aside0.mk (ho); clear HO_3; clear HB; clear HO_5; have HO_3 := n0_; have HB := n1_; have HO118 := n2_; clear n0_ n1_ n2_; clear ho hb hg hat))
                        go_roundg k2
                        case measure => have := HK1.out; have := HK2.out; omega
                        case rel => exact ⟨(y116), (wrap64 (x26_2 + 1)), (by first | rfl | (simp; done) | (simp [*]; done)), H', ⟨by have := HK1.out; have := HK2.out; omega⟩, ⟨by (with_reducible repeat (first | apply Kd.R_alloc | apply Kd.R_drewN | apply Kd.R_drew)); exact Kd.R_mono HO_3.out (fun _ hk => hk.2)⟩, ⟨by (with_reducible repeat (first | apply Kd.R_alloc | apply Kd.R_drewN | apply Kd.R_drew)); exact HO118.out⟩, ⟨by repeat (first | (with_reducible first | exact HB.out | apply below_alloc | apply pw_below_drewN | apply below_drew1) | exact HB.out)⟩⟩
                      · rw [if_neg c17] at H
                        exact absurd H (by simp)
                    · rw [if_neg c16] at H
                      exact absurd H (by simp)
                · rw [if_neg c8] at H
                  exact absurd H (by simp)
              · rw [if_neg c7] at H
                exact absurd H (by simp)
            · rw [if_neg c6] at H
              have c6b0 : decide (x26_2 < (l0.length : Int)) = false := decide_eq_false c6
              clear c6
              by_cases c20 : 0 ≤ (l0.length : Int)
              · rw [if_pos c20] at H
                have c20b0 : decide (0 ≤ (l0.length : Int)) = true := decide_eq_true c20
                have c20b1 : decide (0 ≤ l0.length) = true := decide_eq_true (by omega)
                clear c20
                by_cases c21 : (l0.length : Int) < (x5_2.length : Int)
                · rw [if_pos c21] at H
                  have c21b0 : decide ((l0.length : Int) < (x5_2.length : Int)) = true := decide_eq_true c21
                  have c21b1 : decide (l0.length < x5_2.length) = true := decide_eq_true (Int.ofNat_lt.mp c21)
                  clear c21
                  by_cases c22 : (rd x5_2 (l0.length : Int)) = 0
                  · rw [if_pos c22] at H
                    have c22b0 : ((rd x5_2 (l0.length : Int)) == 0) = true := beq_iff_eq.mpr c22
                    have c22b1 : ((rd x5_2 (l0.length : Int)) != 0) = false := bne_eq_false_iff_eq.mpr c22
                    clear c22
                    have H' := Aside0.mk H
                    clear H
                    obtain ⟨Ao23, co23, eo23⟩ := Kd.R_slice HO_5.out
                    subst eo23
                    have p119 : 0 ≤ ((l0.length : Int) : Int) := of_decide_eq_true (by first | (with_reducible assumption) | assumption)
                    have q119 : (l0.length : Int) < (x5_2.length : Int) := of_decide_eq_true (by first | (with_reducible assumption) | assumption)
                    obtain ⟨ad119, e119, hx119_0⟩ := Kd.at_int (Kd.R_reads' HO_5.out).2.2 (l0.length : Int) p119 q119
                    cases e119
                    (try simp only [Go.IntWalk.toNatUp] at hx119_0)
                    replace p119 := eq_true p119
                    replace q119 := eq_true q119
                    go_wp2
                    go_loopg [8, 56] k2 (fun kq v8 v56 w' => ∃ (x8_3 : Int) (x56_3 : Int), v8 = .int .i64 x8_3 ∧ v56 = .int .i64 x56_3 ∧ Aside0 (spec_riBefore.l2 kq l0 x3_1 x4_1 x5_2 x8_3 x5_2 (x5_2.length : Int) x56_3 = some r) ∧ Aside0 (kq ≤ k2) ∧ Aside0 (Kd.R (Kd.slice 3 (Kd.int .i64)) 22 w' w.heap.size (fun k_ => some k_ ≠ ((.slice (some ad119) x5_2.length co23) : Value).ownBlock ∧ some k_ ≠ ((.slice (some ad119) x5_2.length co23) : Value).ownBlock) u3 x3_1) ∧ Aside0 (Kd.R (Kd.int .i64) 3 w' w.heap.size (fun _ => True) (.slice (some ad119) x5_2.length co23) x5_2) ∧ Aside0 (Kd.R (Kd.int .i64) 3 w' w.heap.size (fun _ => True) (.slice (some ad119) x5_2.length co23) x5_2) ∧ Aside0 (Below w.heap.size w w'))
                    case atStart => exact ⟨(0), (0), (by first | rfl | (simp; done) | (simp [*]; done)), (by first | rfl | (simp; done) | (simp [*]; done)), H', ⟨Nat.le_refl _⟩, ⟨by (with_reducible repeat (first | apply Kd.R_alloc | apply Kd.R_drewN | apply Kd.R_drew)); exact Kd.R_mono HO_3.out (fun _ hk => ⟨hk, hk⟩)⟩, ⟨by (with_reducible repeat (first | apply Kd.R_alloc | apply Kd.R_drewN | apply Kd.R_drew)); exact HO_5.out⟩, ⟨by (with_reducible repeat (first | apply Kd.R_alloc | apply Kd.R_drewN | apply Kd.R_drew)); exact HO_5.out⟩, ⟨by repeat (first | (with_reducible first | exact HB.out | apply below_alloc | apply pw_below_drewN | apply below_drew1) | exact HB.out)⟩⟩
                    case round =>
                      clear H'
                      try clear c1
                      try clear p1
                      try clear q1
                      try clear hx1
                      try clear c2
                      try clear p2
                      try clear c3
                      try clear c3b0
                      try clear c4
                      try clear c6
                      try clear c6b0
                      try clear p6
                      try clear c7
                      try clear c7b0
                      try clear c8
                      try clear c8b0
                      try clear c9
                      try clear c9b0
                      try clear c11
                      try clear c11b0
                      try clear c11b1
                      try clear p11
                      try clear q11
                      try clear hx11
                      try clear c12
                      try clear c12b0
                      try clear c13
                      try clear c16
                      try clear c16b0
                      try clear c17
                      try clear c20
                      try clear c20b0
                      try clear c20b1
                      try clear c21
                      try clear c21b0
                      try clear c21b1
                      try clear c22
                      try clear c22b0
                      try clear c22b1
                      try clear hx110_0
                      try clear hx111_0
                      try clear hx115_0
                      try clear hx119_0
                      try clear p110
                      try clear p111
                      try clear p115
                      try clear p119
                      try clear p2
                      try clear q110
                      try clear q111
                      try clear q115
                      try clear q119
                      obtain ⟨x8_3, x56_3, rfl, rfl, HA, HK3, HO_3, HO_5, HO_54, HB⟩ := hrel
                      cases gk with
                      | zero => exact absurd HA.out (by simp [spec_riBefore.l2])
                      | succ k3 =>
                        have H := HA.out
                        clear HA
                        simp only [spec_riBefore.l2] at H
                        by_cases c24 : x56_3 < (x5_2.length : Int)
                        · rw [if_pos c24] at H
                          have c24b0 : decide (x56_3 < (x5_2.length : Int)) = true := decide_eq_true c24
                          clear c24
                          by_cases c25 : 0 ≤ x56_3
                          · rw [if_pos c25] at H
                            have c25b0 : decide (0 ≤ x56_3) = true := decide_eq_true c25
                            clear c25
                            by_cases c26 : x56_3 < (x5_2.length : Int)
                            · rw [if_pos c26] at H
                              have c26b0 : decide (x56_3 < (x5_2.length : Int)) = true := decide_eq_true c26
                              clear c26
                              replace H := Option.bind_eq_some_iff.mp H
                              obtain ⟨t121, A270, H⟩ := H
                              replace H : (spec_riBefore.l2 k3 l0 x3_1 x4_1 x5_2 t121 x5_2 (x5_2.length : Int) (wrap64 (x56_3 + 1))) = some r := H
                              have A27 := Aside0.mk A270
                              clear A270
                              have H' := Aside0.mk H
                              clear H
                              have p120 : 0 ≤ (x56_3 : Int) := of_decide_eq_true (by first | (with_reducible assumption) | assumption)
                              have q120 : x56_3 < (x5_2.length : Int) := of_decide_eq_true (by first | (with_reducible assumption) | assumption)
                              obtain ⟨ad120, e120, hx120_0⟩ := Kd.at_int (Kd.R_reads' HO_54.out).2.2 x56_3 p120 q120
                              obtain rfl : ad119 = ad120 := (by injection e120)
                              replace p120 := eq_true p120
                              replace q120 := eq_true q120
                              go_wp2_with (first | ((with_reducible refine gate_callee (f := 67) rfl ?_); refine goesL_ (some 62) rfl rfl Try.func67 (by kernel_rfl) rfl #[.int .i64 x8_3, .int .i64 (rd x5_2 x56_3)] rfl (by (try simp only [List.map_toArray, List.map_cons, List.map_nil]); first | done | rfl | (simp only [List.length_drop, List.length_take]; rfl)) ?_; (with_reducible refine (spec_l1Least.calls x8_3 (rd x5_2 x56_3) t121 _ A27.out).mono ?_); rintro e w' ⟨rfl, ⟨nd, rfl⟩⟩; refine ⟨_, rfl, ?_⟩))
                              go_roundg k3
                              case measure => have := HK1.out; have := HK2.out; have := HK3.out; omega
                              case rel => exact ⟨(t121), (wrap64 (x56_3 + 1)), (by first | rfl | (simp; done) | (simp [*]; done)), (by first | rfl | (simp; done) | (simp [*]; done)), H', ⟨by have := HK1.out; have := HK2.out; have := HK3.out; omega⟩, ⟨by (with_reducible repeat (first | apply Kd.R_alloc | apply Kd.R_drewN | apply Kd.R_drew)); exact HO_3.out⟩, ⟨by (with_reducible repeat (first | apply Kd.R_alloc | apply Kd.R_drewN | apply Kd.R_drew)); exact HO_5.out⟩, ⟨by (with_reducible repeat (first | apply Kd.R_alloc | apply Kd.R_drewN | apply Kd.R_drew)); exact HO_54.out⟩, ⟨by repeat (first | (with_reducible first | exact HB.out | apply below_alloc | apply pw_below_drewN | apply below_drew1) | exact HB.out)⟩⟩
                            · rw [if_neg c26] at H
                              exact absurd H (by simp)
                          · rw [if_neg c25] at H
                            exact absurd H (by simp)
                        · rw [if_neg c24] at H
                          have c24b0 : decide (x56_3 < (x5_2.length : Int)) = false := decide_eq_false c24
                          clear c24
                          by_cases c28 : 0 ≤ (l0.length : Int)
                          · rw [if_pos c28] at H
                            have c28b0 := eq_true c28
                            have c28b1 : decide (0 ≤ (l0.length : Int)) = true := decide_eq_true c28
                            clear c28
                            by_cases c29 : (l0.length : Int) ≤ (x5_2.length : Int)
                            · rw [if_pos c29] at H
                              have c29b0 := eq_true c29
                              have c29b1 : decide ((l0.length : Int) ≤ (x5_2.length : Int)) = true := decide_eq_true c29
                              clear c29
                              obtain ⟨y122, hy122⟩ : ∃ y_ : List Int, y_ = (x5_2.take ((l0.length : Int) : Int).toNat) := ⟨_, rfl⟩
                              replace H : (spec_riBefore.l3 k3 l0 x3_1 x4_1 x8_3 ([] : List Int) y122 (y122.length : Int) 0) = some r := by first | (rw [hy122]; with_reducible exact H) | (have H2_ := (Option.bind_some _ _).symm.trans H; rw [hy122]; with_reducible exact H2_) | (have H2_ := (Option.bind_some _ _).symm.trans H; with_reducible exact H2_) | with_reducible exact H | (rw [hy122]; exact H) | exact H
                              have Ny122 := Aside0.mk hy122
                              clear hy122
                              have H' := Aside0.mk H
                              clear H
                              have q30 : ((l0.length : Int) : Int) ≤ ((x5_2.length : Int) : Int) := of_decide_eq_true (by first | (with_reducible assumption) | assumption)
                              obtain ⟨i030, hi030, _, hsz30, _⟩ := info_parts info3
                              have hroom30 : x5_2.length ≤ co23 := (Kd.R_reads' HO_5.out).2.1
                              have hC30 : Kd.C (Kd.int .i64) _ (some ad119) x5_2.length x5_2 := (Kd.R_reads' HO_5.out).2.2
                              have hcut30 := cut_to (P := Try.prog) 22 3 .i64 Try.underlying22 hi030 (some ad119) x5_2.length co23 (l0.length : Int) (of_decide_eq_true (by first | (with_reducible assumption) | assumption)) q30 hroom30
                              have hr30 := Kd.C_take (m := ((l0.length : Int) : Int).toNat) hC30 (by omega)
                              have hy30 : y122.length = ((l0.length : Int) : Int).toNat := (by rw [Ny122.out, List.length_take]; omega)
                              rw [← Ny122.out] at hr30
                              rw [← hy30] at hcut30
                              have HR125 := Aside0.mk hr30
                              obtain ⟨N125, HF125⟩ : ∃ N : Nat, Aside0 (Kd.F (Kd.int .i64) _ (fun k => k < N) (some ad119) y122.length y122) := ⟨_, ⟨Kd.C_F (Kd.heap_int .i64) hr30⟩⟩
                              have HC125 := Aside0.mk (show y122.length ≤ co23 from by omega)
                              clear hr30 hC30 hroom30 hi030 hsz30
                              have KY30 := Aside0.mk hy30
                              clear hy30
                              have KL30 := Aside0.mk (show ((l0.length : Int) : Int).toNat ≤ x5_2.length from by omega)
                              replace q30 := eq_true q30
                              go_wp2
                              go_loopg [11, 69] k3 (fun kq v11 v69 w' => ∃ (x11_4 : List Int) (x69_4 : Int), v69 = .int .i64 x69_4 ∧ Aside0 (spec_riBefore.l3 kq l0 x3_1 x4_1 x8_3 x11_4 y122 (y122.length : Int) x69_4 = some r) ∧ Aside0 (kq ≤ k3) ∧ Aside0 (Kd.R (Kd.slice 3 (Kd.int .i64)) 22 w' w.heap.size (fun k_ => some k_ ≠ (v11 : Value).ownBlock) u3 x3_1) ∧ Aside0 (Kd.R (Kd.int .i64) 3 w' w.heap.size (fun _ => True) v11 x11_4) ∧ Aside0 (Kd.F (Kd.int .i64) w' (fun k_ => k_ < N125 ∧ some k_ ≠ (v11 : Value).ownBlock) (some ad119) y122.length y122) ∧ Aside0 (Below w.heap.size w w'))
                              case atStart => exact ⟨(([] : List Int)), (0), (by first | rfl | (simp; done) | (simp [*]; done)), H', ⟨Nat.le_refl _⟩, ⟨by (with_reducible repeat (first | apply Kd.R_alloc | apply Kd.R_drewN | apply Kd.R_drew)); exact Kd.R_mono HO_3.out (fun _ hk => (by simp [Value.ownBlock]))⟩, ⟨by first | exact Kd.R_nil _ _ _ _ _⟩, ⟨by (with_reducible repeat (first | apply Kd.F_alloc | apply Kd.F_drewN | apply Kd.F_drew)); exact Kd.F_mono HF125.out (fun _ hk => ⟨hk, by simp [Value.ownBlock]⟩)⟩, ⟨by repeat (first | (with_reducible first | exact HB.out | apply below_alloc | apply pw_below_drewN | apply below_drew1) | exact HB.out)⟩⟩
                              case round =>
                                clear H'
                                try clear c1
                                try clear p1
                                try clear q1
                                try clear hx1
                                try clear c2
                                try clear p2
                                try clear c3
                                try clear c3b0
                                try clear q3
                                try clear c4
                                try clear c5
                                try clear c6
                                try clear c6b0
                                try clear p6
                                try clear c7
                                try clear c7b0
                                try clear c8
                                try clear c8b0
                                try clear c9
                                try clear c9b0
                                try clear c11
                                try clear c11b0
                                try clear c11b1
                                try clear p11
                                try clear q11
                                try clear hx11
                                try clear c12
                                try clear c12b0
                                try clear p12
                                try clear q12
                                try clear hx12
                                try clear c13
                                try clear c16
                                try clear c16b0
                                try clear c17
                                try clear c20
                                try clear c20b0
                                try clear c20b1
                                try clear c21
                                try clear c21b0
                                try clear c21b1
                                try clear c22
                                try clear c22b0
                                try clear c22b1
                                try clear c24
                                try clear c24b0
                                try clear c25
                                try clear c25b0
                                try clear c26
                                try clear c26b0
                                try clear c28
                                try clear c28b0
                                try clear c28b1
                                try clear c29
                                try clear c29b0
                                try clear c29b1
                                try clear q30
                                try clear hx110_0
                                try clear hx111_0
                                try clear hx115_0
                                try clear hx119_0
                                try clear hx120_0
                                try clear p1
                                try clear p11
                                try clear p110
                                try clear p111
                                try clear p115
                                try clear p119
                                try clear p120
                                try clear p2
                                try clear p6
                                try clear q1
                                try clear q11
                                try clear q110
                                try clear q111
                                try clear q115
                                try clear q119
                                try clear q120
                                try clear q30
                                obtain ⟨x11_4, x69_4, rfl, HA, HK4, HO_3, HO_11, HF, HB⟩ := hrel
                                cases gk with
                                | zero => exact absurd HA.out (by simp [spec_riBefore.l3])
                                | succ k4 =>
                                  have H := HA.out
                                  clear HA
                                  simp only [spec_riBefore.l3] at H
                                  by_cases c31 : x69_4 < (y122.length : Int)
                                  · rw [if_pos c31] at H
                                    have c31b0 : decide (x69_4 < (y122.length : Int)) = true := decide_eq_true c31
                                    clear c31
                                    by_cases c32 : 0 ≤ x69_4
                                    · rw [if_pos c32] at H
                                      have c32b0 : decide (0 ≤ x69_4) = true := decide_eq_true c32
                                      clear c32
                                      by_cases c33 : x69_4 < (y122.length : Int)
                                      · rw [if_pos c33] at H
                                        have c33b0 : decide (x69_4 < (y122.length : Int)) = true := decide_eq_true c33
                                        clear c33
                                        by_cases c34 : x11_4.length < 17592186044416
                                        · rw [if_pos c34] at H
                                          have LMc34 := Aside0.mk c34
                                          clear c34
                                          obtain ⟨y127, hy127⟩ : ∃ y_ : List Int, y_ = (x11_4 ++ [wrap64 ((rd y122 x69_4) - x8_3)]) := ⟨_, rfl⟩
                                          replace H : (spec_riBefore.l3 k4 l0 x3_1 x4_1 x8_3 y127 y122 (y122.length : Int) (wrap64 (x69_4 + 1))) = some r := by first | (rw [hy127]; with_reducible exact H) | (have H2_ := (Option.bind_some _ _).symm.trans H; rw [hy127]; with_reducible exact H2_) | (have H2_ := (Option.bind_some _ _).symm.trans H; with_reducible exact H2_) | with_reducible exact H | (rw [hy127]; exact H) | exact H
                                          have Ny127 := Aside0.mk hy127
                                          clear hy127
                                          have H' := Aside0.mk H
                                          clear H
                                          have p126 : 0 ≤ (x69_4 : Int) := of_decide_eq_true (by first | (with_reducible assumption) | assumption)
                                          have q126 : x69_4 < (y122.length : Int) := of_decide_eq_true (by first | (with_reducible assumption) | assumption)
                                          obtain ⟨ad126, e126, hx126_0⟩ := Kd.at_int (Kd.F_now HF.out) x69_4 p126 q126
                                          obtain rfl : ad119 = ad126 := (by injection e126)
                                          replace p126 := eq_true p126
                                          replace q126 := eq_true q126
                                          go_wp2_with (first | ((with_reducible refine gate_builtin (b := .append) (xs := #[.tmp 73, .tmp 77]) rfl ?_); at_builtin; refine Kd.R_append (Kd.int .i64) (w0 := w) w.heap.size rfl (.tmp 73) (.tmp 77) 22 3 (.int .i64 0) 8 rfl Try.underlying22 info3 rfl (by decide) (by omega) u11 x11_4 (wrap64 ((rd y122 x69_4) - x8_3)) [.int .i64 (wrap64 ((rd y122 x69_4) - x8_3))] (fun _ => True) (fun _ => False) rfl rfl ?aP (fun _ hk => hk.elim) ?aF ?aO ?aB ?aS ?aL ?_; (case aP => exact rfl); (case aB => exact (by repeat (first | (with_reducible first | exact HB.out | apply below_alloc | apply pw_below_drewN | apply below_drew1) | exact HB.out))); (case aF => exact (fun _ _ => trivial)); (case aO => exact (by (with_reducible repeat (first | apply Kd.R_alloc | apply Kd.R_drewN | apply Kd.R_drew)); exact HO_11.out)); (case aS => exact (below_size (by repeat (first | (with_reducible first | exact HB.out | apply below_alloc | apply pw_below_drewN | apply below_drew1) | exact HB.out)))); (case aL => have := LMc34.out; omega); intro v128 w35 ho hb hg hat; rw [← Ny127.out] at ho; have nf_ := Aside0.mk (Kd.F_after (ok := (fun k_ => k_ < N125)) (by (with_reducible repeat (first | apply Kd.F_alloc | apply Kd.F_drewN | apply Kd.F_drew)); exact HF.out) hg hat); clear HF; have HF := nf_; clear nf_; have n0_ := Aside0.mk (Kd.R_after (ok := (fun _ => True)) (by (with_reducible repeat (first | apply Kd.R_alloc | apply Kd.R_drewN | apply Kd.R_drew)); exact Kd.R_mono HO_3.out (fun _ hk => ⟨trivial, hk⟩)) hg hat); have n1_ := Aside0.mk (hb); have n2_ := Aside0.mk (ho); clear HO_3; clear HB; clear HO_11; have HO_3 := n0_; have HB := n1_; have HO129 := n2_; clear n0_ n1_ n2_; clear ho hb hg hat))
                                          go_roundg k4
                                          case measure => have := HK1.out; have := HK2.out; have := HK3.out; have := HK4.out; omega
                                          case rel => exact ⟨(y127), (wrap64 (x69_4 + 1)), (by first | rfl | (simp; done) | (simp [*]; done)), H', ⟨by have := HK1.out; have := HK2.out; have := HK3.out; have := HK4.out; omega⟩, ⟨by (with_reducible repeat (first | apply Kd.R_alloc | apply Kd.R_drewN | apply Kd.R_drew)); exact Kd.R_mono HO_3.out (fun _ hk => hk.2)⟩, ⟨by (with_reducible repeat (first | apply Kd.R_alloc | apply Kd.R_drewN | apply Kd.R_drew)); exact HO129.out⟩, HF, ⟨by repeat (first | (with_reducible first | exact HB.out | apply below_alloc | apply pw_below_drewN | apply below_drew1) | exact HB.out)⟩⟩
                                        · rw [if_neg c34] at H
                                          exact absurd H (by simp)
                                      · rw [if_neg c33] at H
                                        exact absurd H (by simp)
                                    · rw [if_neg c32] at H
                                      exact absurd H (by simp)
                                  · rw [if_neg c31] at H
                                    have c31b0 : decide (x69_4 < (y122.length : Int)) = false := decide_eq_false c31
                                    clear c31
                                    have H' := Aside0.mk H
                                    clear H
                                    go_wp2
                                    go_loopg [14] k4 (fun kq v14 w' => ∃ (x14_5 : Int), v14 = .int .i64 x14_5 ∧ Aside0 (spec_riBefore.l4 kq l0 x3_1 x4_1 x11_4 x14_5 = some r) ∧ Aside0 (kq ≤ k4) ∧ Aside0 (Kd.R (Kd.slice 3 (Kd.int .i64)) 22 w' w.heap.size (fun k_ => some k_ ≠ (u11 : Value).ownBlock) u3 x3_1) ∧ Aside0 (Kd.R (Kd.int .i64) 3 w' w.heap.size (fun _ => True) u11 x11_4) ∧ Aside0 (Below w.heap.size w w'))
                                    case atStart => exact ⟨(0), (by first | rfl | (simp; done) | (simp [*]; done)), H', ⟨Nat.le_refl _⟩, ⟨by (with_reducible repeat (first | apply Kd.R_alloc | apply Kd.R_drewN | apply Kd.R_drew)); exact HO_3.out⟩, ⟨by (with_reducible repeat (first | apply Kd.R_alloc | apply Kd.R_drewN | apply Kd.R_drew)); exact HO_11.out⟩, ⟨by repeat (first | (with_reducible first | exact HB.out | apply below_alloc | apply pw_below_drewN | apply below_drew1) | exact HB.out)⟩⟩
                                    case round =>
                                      clear H'
                                      try clear c1
                                      try clear p1
                                      try clear q1
                                      try clear hx1
                                      try clear c2
                                      try clear p2
                                      try clear c3
                                      try clear c3b0
                                      try clear q3
                                      try clear c4
                                      try clear c5
                                      try clear c6
                                      try clear c6b0
                                      try clear p6
                                      try clear c7
                                      try clear c7b0
                                      try clear c8
                                      try clear c8b0
                                      try clear c9
                                      try clear c9b0
                                      try clear c11
                                      try clear c11b0
                                      try clear c11b1
                                      try clear p11
                                      try clear q11
                                      try clear hx11
                                      try clear c12
                                      try clear c12b0
                                      try clear p12
                                      try clear q12
                                      try clear hx12
                                      try clear c13
                                      try clear c16
                                      try clear c16b0
                                      try clear c17
                                      try clear c20
                                      try clear c20b0
                                      try clear c20b1
                                      try clear c21
                                      try clear c21b0
                                      try clear c21b1
                                      try clear c22
                                      try clear c22b0
                                      try clear c22b1
                                      try clear c24
                                      try clear c24b0
                                      try clear c25
                                      try clear c25b0
                                      try clear c26
                                      try clear c26b0
                                      try clear c28
                                      try clear c28b0
                                      try clear c28b1
                                      try clear c29
                                      try clear c29b0
                                      try clear c29b1
                                      try clear q30
                                      try clear c31
                                      try clear c31b0
                                      try clear c32
                                      try clear c32b0
                                      try clear c33
                                      try clear c33b0
                                      try clear c34
                                      try clear hx110_0
                                      try clear hx111_0
                                      try clear hx115_0
                                      try clear hx119_0
                                      try clear hx120_0
                                      try clear hx126_0
                                      try clear p1
                                      try clear p11
                                      try clear p110
                                      try clear p111
                                      try clear p115
                                      try clear p119
                                      try clear p12
                                      try clear p120
                                      try clear p126
                                      try clear p2
                                      try clear p6
                                      try clear q1
                                      try clear q11
                                      try clear q110
                                      try clear q111
                                      try clear q115
                                      try clear q119
                                      try clear q12
                                      try clear q120
                                      try clear q126
                                      try clear q3
                                      try clear q30
                                      obtain ⟨x14_5, rfl, HA, HK5, HO_3, HO_11, HB⟩ := hrel
                                      cases gk with
                                      | zero => exact absurd HA.out (by simp [spec_riBefore.l4])
                                      | succ k5 =>
                                        have H := HA.out
                                        clear HA
                                        simp only [spec_riBefore.l4] at H
                                        by_cases c36 : x14_5 < (x3_1.length : Int)
                                        · rw [if_pos c36] at H
                                          have c36b0 : decide (x14_5 < (x3_1.length : Int)) = true := decide_eq_true c36
                                          clear c36
                                          by_cases c37 : 0 ≤ x14_5
                                          · rw [if_pos c37] at H
                                            have c37b0 : decide (0 ≤ x14_5) = true := decide_eq_true c37
                                            clear c37
                                            replace H := Option.bind_eq_some_iff.mp H
                                            obtain ⟨t131, A380, H⟩ := H
                                            replace H : (if t131 = true then (spec_riBefore.l4 k5 l0 x3_1 x4_1 x11_4 (wrap64 (x14_5 + 1))) else ((spec_l1Same.f k5 (rd_L1 x3_1 x14_5) x11_4).bind fun t133 => (if t133 = true then (spec_riBefore.l0 k5 l0 x3_1 (wrap64 (x4_1 + 1))) else (if x3_1.length < 5864062014805 then (spec_riBefore.l0 k5 l0 (x3_1.take (x14_5 : Int).toNat ++ [x11_4] ++ x3_1.drop (x14_5 : Int).toNat) (wrap64 (x4_1 + 1))) else (none))))) = some r := H
                                            have A38 := Aside0.mk A380
                                            clear A380
                                            by_cases c39 : t131 = true
                                            · subst c39
                                              have H1 : (spec_riBefore.l4 k5 l0 x3_1 x4_1 x11_4 (wrap64 (x14_5 + 1))) = some r := by rw [if_pos rfl] at H; exact H
                                              clear H
                                              have H := H1
                                              clear H1
                                              have H' := Aside0.mk H
                                              clear H
                                              obtain ⟨Ao40, co40, eo40⟩ := Kd.R_slice HO_3.out
                                              subst eo40
                                              have p130 : 0 ≤ (x14_5 : Int) := of_decide_eq_true (by first | (with_reducible assumption) | assumption)
                                              have q130 : x14_5 < (x3_1.length : Int) := of_decide_eq_true (by first | (with_reducible assumption) | assumption)
                                              obtain ⟨ad130, A130_0, c130_0, e130, hx130_0, hl130_0, hi130_0⟩ := at_L1 (Kd.R_reads' HO_3.out).2.2 x14_5 p130 q130
                                              cases e130
                                              obtain ⟨ce130, hce130, hMe130, hcc130⟩ := Kd.R_get HO_3.out [] x14_5 p130 (by first | exact q130 | exact of_decide_eq_true (by first | (with_reducible assumption) | assumption) | (have e_ := (Kd.R_reads' HO_3.out).1; omega))
                                              obtain ⟨ve130_0, rfl, ge130_0⟩ := hMe130
                                              have hv130_0 := hcc130 0 _ rfl
                                              rw [Nat.add_zero, show ((Kd.slice 3 (Kd.int .i64))).sz = 1 from rfl, Nat.mul_one] at hv130_0
                                              replace hv130_0 := Option.some.inj (hv130_0.symm.trans hx130_0)
                                              rw [hv130_0] at ge130_0
                                              have HL130_0 := Aside0.mk (show Kd.R (Kd.int .i64) 3 _ _ _ _ (rd_L1 x3_1 x14_5) from ge130_0)
                                              clear hv130_0 ge130_0
                                              clear hcc130 hce130
                                              have HR130_0 := Aside0.mk hi130_0
                                              have HC130_0 := Aside0.mk hl130_0
                                              clear hi130_0 hl130_0
                                              replace p130 := eq_true p130
                                              replace q130 := eq_true q130
                                              obtain ⟨Ao41, co41, eo41⟩ := Kd.R_slice HO_11.out
                                              subst eo41
                                              go_wp2_with (first | (go_at_call 68; (with_reducible refine (spec_riLess.calls k5 _ _ (rd_L1 x3_1 x14_5) _ _ x11_4 true _ ?side1 ?side2 ?side3 ?side4 A38.out).mono ?_); (case side1 => repeat (first | exact (by repeat (first | (with_reducible exact HR130_0.out) | (with_reducible refine Kd.C_alloc ?_ _) | (with_reducible refine Kd.C_drewN ?_ _) | (with_reducible refine Kd.C_drew ?_) | exact HR130_0.out)) | (with_reducible refine Kd.C_alloc ?_ _) | (with_reducible refine Kd.C_drewN ?_ _) | (with_reducible refine Kd.C_drew ?_))); (case side2 => exact HC130_0.out); (case side3 => repeat (first | exact (Kd.R_reads' HO_11.out).2.2 | (with_reducible refine Kd.C_alloc ?_ _) | (with_reducible refine Kd.C_drewN ?_ _) | (with_reducible refine Kd.C_drew ?_))); (case side4 => exact (Kd.R_reads' HO_11.out).2.1); rintro e w' ⟨rfl, ⟨nd, rfl⟩⟩))
                                              go_roundg k5
                                              case measure => have := HK1.out; have := HK2.out; have := HK3.out; have := HK4.out; have := HK5.out; omega
                                              case rel => exact ⟨(wrap64 (x14_5 + 1)), (by first | rfl | (simp; done) | (simp [*]; done)), H', ⟨by have := HK1.out; have := HK2.out; have := HK3.out; have := HK4.out; have := HK5.out; omega⟩, ⟨by (with_reducible repeat (first | apply Kd.R_alloc | apply Kd.R_drewN | apply Kd.R_drew)); exact HO_3.out⟩, ⟨by (with_reducible repeat (first | apply Kd.R_alloc | apply Kd.R_drewN | apply Kd.R_drew)); exact HO_11.out⟩, ⟨by repeat (first | (with_reducible first | exact HB.out | apply below_alloc | apply pw_below_drewN | apply below_drew1) | exact HB.out)⟩⟩
                                            · replace c39 := Bool.eq_false_iff.mpr c39
                                              subst c39
                                              have H1 : ((spec_l1Same.f k5 (rd_L1 x3_1 x14_5) x11_4).bind fun t133 => (if t133 = true then (spec_riBefore.l0 k5 l0 x3_1 (wrap64 (x4_1 + 1))) else (if x3_1.length < 5864062014805 then (spec_riBefore.l0 k5 l0 (x3_1.take (x14_5 : Int).toNat ++ [x11_4] ++ x3_1.drop (x14_5 : Int).toNat) (wrap64 (x4_1 + 1))) else (none)))) = some r := by rw [if_neg (show ¬ (false = true) by decide)] at H; exact H
                                              clear H
                                              have H := H1
                                              clear H1
                                              replace H := Option.bind_eq_some_iff.mp H
                                              obtain ⟨t133, A420, H⟩ := H
                                              replace H : (if t133 = true then (spec_riBefore.l0 k5 l0 x3_1 (wrap64 (x4_1 + 1))) else (if x3_1.length < 5864062014805 then (spec_riBefore.l0 k5 l0 (x3_1.take (x14_5 : Int).toNat ++ [x11_4] ++ x3_1.drop (x14_5 : Int).toNat) (wrap64 (x4_1 + 1))) else (none))) = some r := H
                                              have A42 := Aside0.mk A420
                                              clear A420
                                              by_cases c43 : t133 = true
                                              · subst c43
                                                have H1 : (spec_riBefore.l0 k5 l0 x3_1 (wrap64 (x4_1 + 1))) = some r := by rw [if_pos rfl] at H; exact H
                                                clear H
                                                have H := H1
                                                clear H1
                                                have H' := Aside0.mk H
                                                clear H
                                                obtain ⟨Ao44, co44, eo44⟩ := Kd.R_slice HO_3.out
                                                subst eo44
                                                have p130 : 0 ≤ (x14_5 : Int) := of_decide_eq_true (by first | (with_reducible assumption) | assumption)
                                                have q130 : x14_5 < (x3_1.length : Int) := of_decide_eq_true (by first | (with_reducible assumption) | assumption)
                                                obtain ⟨ad130, A130_0, c130_0, e130, hx130_0, hl130_0, hi130_0⟩ := at_L1 (Kd.R_reads' HO_3.out).2.2 x14_5 p130 q130
                                                cases e130
                                                obtain ⟨ce130, hce130, hMe130, hcc130⟩ := Kd.R_get HO_3.out [] x14_5 p130 (by first | exact q130 | exact of_decide_eq_true (by first | (with_reducible assumption) | assumption) | (have e_ := (Kd.R_reads' HO_3.out).1; omega))
                                                obtain ⟨ve130_0, rfl, ge130_0⟩ := hMe130
                                                have hv130_0 := hcc130 0 _ rfl
                                                rw [Nat.add_zero, show ((Kd.slice 3 (Kd.int .i64))).sz = 1 from rfl, Nat.mul_one] at hv130_0
                                                replace hv130_0 := Option.some.inj (hv130_0.symm.trans hx130_0)
                                                rw [hv130_0] at ge130_0
                                                have HL130_0 := Aside0.mk (show Kd.R (Kd.int .i64) 3 _ _ _ _ (rd_L1 x3_1 x14_5) from ge130_0)
                                                clear hv130_0 ge130_0
                                                clear hcc130 hce130
                                                have HR130_0 := Aside0.mk hi130_0
                                                have HC130_0 := Aside0.mk hl130_0
                                                clear hi130_0 hl130_0
                                                replace p130 := eq_true p130
                                                replace q130 := eq_true q130
                                                obtain ⟨Ao45, co45, eo45⟩ := Kd.R_slice HO_11.out
                                                subst eo45
                                                go_wp2_with (first | (go_at_call 68; (with_reducible refine (spec_riLess.calls k5 _ _ (rd_L1 x3_1 x14_5) _ _ x11_4 false _ ?side1 ?side2 ?side3 ?side4 A38.out).mono ?_); (case side1 => repeat (first | exact (by repeat (first | (with_reducible exact HR130_0.out) | (with_reducible refine Kd.C_alloc ?_ _) | (with_reducible refine Kd.C_drewN ?_ _) | (with_reducible refine Kd.C_drew ?_) | exact HR130_0.out)) | (with_reducible refine Kd.C_alloc ?_ _) | (with_reducible refine Kd.C_drewN ?_ _) | (with_reducible refine Kd.C_drew ?_))); (case side2 => exact HC130_0.out); (case side3 => repeat (first | exact (Kd.R_reads' HO_11.out).2.2 | (with_reducible refine Kd.C_alloc ?_ _) | (with_reducible refine Kd.C_drewN ?_ _) | (with_reducible refine Kd.C_drew ?_))); (case side4 => exact (Kd.R_reads' HO_11.out).2.1); rintro e w' ⟨rfl, ⟨nd, rfl⟩⟩; have p132 : 0 ≤ (x14_5 : Int) := of_decide_eq_true (by first | (with_reducible assumption) | assumption); have q132 : x14_5 < (x3_1.length : Int) := of_decide_eq_true (by first | (with_reducible assumption) | assumption); obtain ⟨ad132, A132_0, c132_0, e132, hx132_0, hl132_0, hi132_0⟩ := at_L1 (Kd.R_reads' HO_3.out).2.2 x14_5 p132 q132; obtain rfl : ad130 = ad132 := (by injection e132); obtain ⟨ce132, hce132, hMe132, hcc132⟩ := Kd.R_get HO_3.out [] x14_5 p132 (by first | exact q132 | exact of_decide_eq_true (by first | (with_reducible assumption) | assumption) | (have e_ := (Kd.R_reads' HO_3.out).1; omega)); obtain ⟨ve132_0, rfl, ge132_0⟩ := hMe132; have hv132_0 := hcc132 0 _ rfl; rw [Nat.add_zero, show ((Kd.slice 3 (Kd.int .i64))).sz = 1 from rfl, Nat.mul_one] at hv132_0; replace hv132_0 := Option.some.inj (hv132_0.symm.trans hx132_0); rw [hv132_0] at ge132_0; have HL132_0 := Aside0.mk (show Kd.R (Kd.int .i64) 3 _ _ _ _ (rd_L1 x3_1 x14_5) from ge132_0); clear hv132_0 ge132_0; clear hcc132 hce132; have HR132_0 := Aside0.mk hi132_0; have HC132_0 := Aside0.mk hl132_0; clear hi132_0 hl132_0; replace p132 := eq_true p132; replace q132 := eq_true q132; have ea_ := Option.some.inj (hx130_0.symm.trans hx132_0); injection ea_ with ea_ en_ ec_; subst ea_; subst ec_; clear en_) | (go_at_call 69; (with_reducible refine (spec_l1Same.calls k5 _ _ (rd_L1 x3_1 x14_5) _ _ x11_4 true _ ?side1 ?side2 ?side3 ?side4 A42.out).mono ?_); (case side1 => repeat (first | exact (by repeat (first | (with_reducible exact HR132_0.out) | (with_reducible refine Kd.C_alloc ?_ _) | (with_reducible refine Kd.C_drewN ?_ _) | (with_reducible refine Kd.C_drew ?_) | exact HR132_0.out)) | (with_reducible refine Kd.C_alloc ?_ _) | (with_reducible refine Kd.C_drewN ?_ _) | (with_reducible refine Kd.C_drew ?_))); (case side2 => exact HC132_0.out); (case side3 => repeat (first | exact (Kd.R_reads' HO_11.out).2.2 | (with_reducible refine Kd.C_alloc ?_ _) | (with_reducible refine Kd.C_drewN ?_ _) | (with_reducible refine Kd.C_drew ?_))); (case side4 => exact (Kd.R_reads' HO_11.out).2.1); rintro e w' ⟨rfl, ⟨nd, rfl⟩⟩))
                                                go_roundg k5
                                                case measure => have := HK1.out; have := HK2.out; have := HK3.out; have := HK4.out; have := HK5.out; omega
                                                case rel => exact ⟨(x3_1), (wrap64 (x4_1 + 1)), (by first | rfl | (simp; done) | (simp [*]; done)), H', ⟨by have := HK1.out; have := HK2.out; have := HK3.out; have := HK4.out; have := HK5.out; omega⟩, ⟨by (with_reducible repeat (first | apply Kd.R_alloc | apply Kd.R_drewN | apply Kd.R_drew)); exact Kd.R_mono HO_3.out (fun _ hk => trivial)⟩, ⟨by repeat (first | (with_reducible first | exact HB.out | apply below_alloc | apply pw_below_drewN | apply below_drew1) | exact HB.out)⟩⟩
                                              · replace c43 := Bool.eq_false_iff.mpr c43
                                                subst c43
                                                have H1 : (if x3_1.length < 5864062014805 then (spec_riBefore.l0 k5 l0 (x3_1.take (x14_5 : Int).toNat ++ [x11_4] ++ x3_1.drop (x14_5 : Int).toNat) (wrap64 (x4_1 + 1))) else (none)) = some r := by rw [if_neg (show ¬ (false = true) by decide)] at H; exact H
                                                clear H
                                                have H := H1
                                                clear H1
                                                by_cases c46 : x3_1.length < 5864062014805
                                                · rw [if_pos c46] at H
                                                  have LMc46 := Aside0.mk c46
                                                  clear c46
                                                  obtain ⟨y134, hy134⟩ : ∃ y_ : List (List Int), y_ = (x3_1.take (x14_5 : Int).toNat ++ [x11_4] ++ x3_1.drop (x14_5 : Int).toNat) := ⟨_, rfl⟩
                                                  replace H : (spec_riBefore.l0 k5 l0 y134 (wrap64 (x4_1 + 1))) = some r := by first | (rw [hy134]; with_reducible exact H) | (have H2_ := (Option.bind_some _ _).symm.trans H; rw [hy134]; with_reducible exact H2_) | (have H2_ := (Option.bind_some _ _).symm.trans H; with_reducible exact H2_) | with_reducible exact H | (rw [hy134]; exact H) | exact H
                                                  have Ny134 := Aside0.mk hy134
                                                  clear hy134
                                                  have H' := Aside0.mk H
                                                  clear H
                                                  obtain ⟨Ao47, co47, eo47⟩ := Kd.R_slice HO_3.out
                                                  subst eo47
                                                  have p130 : 0 ≤ (x14_5 : Int) := of_decide_eq_true (by first | (with_reducible assumption) | assumption)
                                                  have q130 : x14_5 < (x3_1.length : Int) := of_decide_eq_true (by first | (with_reducible assumption) | assumption)
                                                  obtain ⟨ad130, A130_0, c130_0, e130, hx130_0, hl130_0, hi130_0⟩ := at_L1 (Kd.R_reads' HO_3.out).2.2 x14_5 p130 q130
                                                  cases e130
                                                  obtain ⟨ce130, hce130, hMe130, hcc130⟩ := Kd.R_get HO_3.out [] x14_5 p130 (by first | exact q130 | exact of_decide_eq_true (by first | (with_reducible assumption) | assumption) | (have e_ := (Kd.R_reads' HO_3.out).1; omega))
                                                  obtain ⟨ve130_0, rfl, ge130_0⟩ := hMe130
                                                  have hv130_0 := hcc130 0 _ rfl
                                                  rw [Nat.add_zero, show ((Kd.slice 3 (Kd.int .i64))).sz = 1 from rfl, Nat.mul_one] at hv130_0
                                                  replace hv130_0 := Option.some.inj (hv130_0.symm.trans hx130_0)
                                                  rw [hv130_0] at ge130_0
                                                  have HL130_0 := Aside0.mk (show Kd.R (Kd.int .i64) 3 _ _ _ _ (rd_L1 x3_1 x14_5) from ge130_0)
                                                  clear hv130_0 ge130_0
                                                  clear hcc130 hce130
                                                  have HR130_0 := Aside0.mk hi130_0
                                                  have HC130_0 := Aside0.mk hl130_0
                                                  clear hi130_0 hl130_0
                                                  replace p130 := eq_true p130
                                                  replace q130 := eq_true q130
                                                  obtain ⟨Ao48, co48, eo48⟩ := Kd.R_slice HO_11.out
                                                  subst eo48
                                                  have HK14 := Aside0.mk (show (x14_5 : Int).toNat ≤ x3_1.length ∧ 0 ≤ x14_5 from by constructor <;> (have h1 := of_decide_eq_true c36b0; have h2 := of_decide_eq_true c37b0; omega))
                                                  obtain ⟨i014, hi014, _, hsz14, _⟩ := info_parts info22
                                                  have hcutA := cut_to (P := Try.prog) 26 22 .i64 Try.underlying26 hi014 ((some ad130)) x3_1.length co47 x14_5 HK14.out.2 (by have := HK14.out; omega) (Kd.R_reads' HO_3.out).2.1
                                                  have hcutB := cut_from (P := Try.prog) 26 22 .i64 Try.underlying26 hi014 1 hsz14 ((some ad130)) x3_1.length co47 x14_5 HK14.out.2 (by have := HK14.out; omega)
                                                  obtain ⟨A14, HA14⟩ : ∃ A14, Aside0 (A14 = (if co47 = (x14_5 : Int).toNat then ((some ad130) : Option Addr) else ((some ad130) : Option Addr).map (·.add ((x14_5 : Int).toNat * 1)))) := ⟨_, ⟨rfl⟩⟩
                                                  rw [← HA14.out] at hcutB
                                                  clear hi014 hsz14
                                                  go_wp2_with (first | (go_at_call 68; (with_reducible refine (spec_riLess.calls k5 _ _ (rd_L1 x3_1 x14_5) _ _ x11_4 false _ ?side1 ?side2 ?side3 ?side4 A38.out).mono ?_); (case side1 => repeat (first | exact (by repeat (first | (with_reducible exact HR130_0.out) | (with_reducible refine Kd.C_alloc ?_ _) | (with_reducible refine Kd.C_drewN ?_ _) | (with_reducible refine Kd.C_drew ?_) | exact HR130_0.out)) | (with_reducible refine Kd.C_alloc ?_ _) | (with_reducible refine Kd.C_drewN ?_ _) | (with_reducible refine Kd.C_drew ?_))); (case side2 => exact HC130_0.out); (case side3 => repeat (first | exact (Kd.R_reads' HO_11.out).2.2 | (with_reducible refine Kd.C_alloc ?_ _) | (with_reducible refine Kd.C_drewN ?_ _) | (with_reducible refine Kd.C_drew ?_))); (case side4 => exact (Kd.R_reads' HO_11.out).2.1); rintro e w' ⟨rfl, ⟨nd, rfl⟩⟩; have p132 : 0 ≤ (x14_5 : Int) := of_decide_eq_true (by first | (with_reducible assumption) | assumption); have q132 : x14_5 < (x3_1.length : Int) := of_decide_eq_true (by first | (with_reducible assumption) | assumption); obtain ⟨ad132, A132_0, c132_0, e132, hx132_0, hl132_0, hi132_0⟩ := at_L1 (Kd.R_reads' HO_3.out).2.2 x14_5 p132 q132; obtain rfl : ad130 = ad132 := (by injection e132); obtain ⟨ce132, hce132, hMe132, hcc132⟩ := Kd.R_get HO_3.out [] x14_5 p132 (by first | exact q132 | exact of_decide_eq_true (by first | (with_reducible assumption) | assumption) | (have e_ := (Kd.R_reads' HO_3.out).1; omega)); obtain ⟨ve132_0, rfl, ge132_0⟩ := hMe132; have hv132_0 := hcc132 0 _ rfl; rw [Nat.add_zero, show ((Kd.slice 3 (Kd.int .i64))).sz = 1 from rfl, Nat.mul_one] at hv132_0; replace hv132_0 := Option.some.inj (hv132_0.symm.trans hx132_0); rw [hv132_0] at ge132_0; have HL132_0 := Aside0.mk (show Kd.R (Kd.int .i64) 3 _ _ _ _ (rd_L1 x3_1 x14_5) from ge132_0); clear hv132_0 ge132_0; clear hcc132 hce132; have HR132_0 := Aside0.mk hi132_0; have HC132_0 := Aside0.mk hl132_0; clear hi132_0 hl132_0; replace p132 := eq_true p132; replace q132 := eq_true q132; have ea_ := Option.some.inj (hx130_0.symm.trans hx132_0); injection ea_ with ea_ en_ ec_; subst ea_; subst ec_; clear en_) | (go_at_call 69; (with_reducible refine (spec_l1Same.calls k5 _ _ (rd_L1 x3_1 x14_5) _ _ x11_4 false _ ?side1 ?side2 ?side3 ?side4 A42.out).mono ?_); (case side1 => repeat (first | exact (by repeat (first | (with_reducible exact HR132_0.out) | (with_reducible refine Kd.C_alloc ?_ _) | (with_reducible refine Kd.C_drewN ?_ _) | (with_reducible refine Kd.C_drew ?_) | exact HR132_0.out)) | (with_reducible refine Kd.C_alloc ?_ _) | (with_reducible refine Kd.C_drewN ?_ _) | (with_reducible refine Kd.C_drew ?_))); (case side2 => exact HC132_0.out); (case side3 => repeat (first | exact (Kd.R_reads' HO_11.out).2.2 | (with_reducible refine Kd.C_alloc ?_ _) | (with_reducible refine Kd.C_drewN ?_ _) | (with_reducible refine Kd.C_drew ?_))); (case side4 => exact (Kd.R_reads' HO_11.out).2.1); rintro e w' ⟨rfl, ⟨nd, rfl⟩⟩) | ((with_reducible refine gate_dst (N := 106) rfl ?_); refine Kd.R_lit (Kd.slice 3 (Kd.int .i64)) _ 22 ?hg (N := 106) ?hd (xs := ([] : List (List Int))) (inner := []) (ok := fun _ => True) (okp := fun _ => True) ?hr ?hp (fun _ hk => hk) trivial (Below.refl _ _) (Nat.le_refl _) (by simp) ?_; (case hd => rfl); (case hg => rfl); (case hr => first | (go_simp; done) | (go_simp; rfl)); (case hp => exact (Reps.none _ _)); intro v106 w106 ho hb hg_ hnew_; have n0_ := Aside0.mk (Kd.R_lower ho (below_size (by repeat (first | (with_reducible first | exact HB.out | apply below_alloc | apply pw_below_drewN | apply below_drew1) | exact HB.out)))); have n1_ := Aside0.mk (below_step (by repeat (first | (with_reducible first | exact HB.out | apply below_alloc | apply pw_below_drewN | apply below_drew1) | exact HB.out)) hb); have n2_ := Aside0.mk (RI.old (by (with_reducible repeat (first | apply Kd.R_alloc | apply Kd.R_drewN | apply Kd.R_drew)); exact HO_3.out) hg_ hnew_); have n3_ := Aside0.mk (RI.old (by (with_reducible repeat (first | apply Kd.R_alloc | apply Kd.R_drewN | apply Kd.R_drew)); exact HO_11.out) hg_ hnew_); clear HB HO_3 HO_11 HL130_0 HL132_0; have HO106 := n0_; have HB := n1_; have HO_3 := n2_; have HO_11 := n3_; clear n0_ n1_ n2_ n3_ ho hb hg_ hnew_) | ((with_reducible refine gate_builtin (b := .append) (xs := #[.tmp 106, .tmp 109]) rfl ?_); at_builtin; refine Kd.R_append_rows (Kd.slice 3 (Kd.int .i64)) (w0 := w) w.heap.size rfl (.tmp 106) (.tmp 109) 26 22 (.slice none 0 0) 24 rfl Try.underlying26 info22 rfl (by decide) (by omega) v106 [] (x3_1.take (x14_5 : Int).toNat) (some ad130) ((x14_5 : Int).toNat) co47 (fun _ => True) (fun k_ => some k_ ≠ (v106 : Value).ownBlock) rfl rfl ?aO ?aR (fun _ _ hk => hk) (fun _ hk => ⟨trivial, hk⟩) (fun _ _ => trivial) ?aB ?aS ?aL ?_; (case aO => exact HO106.out); (case aR => exact RI.take (Kd.R_mono HO_3.out (fun _ hk => hk.2)) (by have := HK14.out; omega)); (case aB => exact (by repeat (first | (with_reducible first | exact HB.out | apply below_alloc | apply pw_below_drewN | apply below_drew1) | exact HB.out))); (case aS => exact (below_size (by repeat (first | (with_reducible first | exact HB.out | apply below_alloc | apply pw_below_drewN | apply below_drew1) | exact HB.out)))); (case aL => have := LMc46.out; have := HK14.out; simp only [List.length_nil]; omega); intro v110 w110 ho hb hg hat; have n0_ := Aside0.mk ho; have n1_ := Aside0.mk hb; have n2_ := Aside0.mk (Kd.R_after (ok := fun _ => True) (by (with_reducible repeat (first | apply Kd.R_alloc | apply Kd.R_drewN | apply Kd.R_drew)); exact Kd.R_mono HO_3.out (fun _ hk => ⟨trivial, hk.2⟩)) hg hat); have n3_ := Aside0.mk (Kd.R_after (ok := fun _ => True) (by (with_reducible repeat (first | apply Kd.R_alloc | apply Kd.R_drewN | apply Kd.R_drew)); exact Kd.R_mono HO_11.out (fun _ hk => ⟨trivial, hk.2⟩)) hg hat); clear HB HO_3 HO_11 HO106; have HO110 := n0_; have HB := n1_; have HO_3 := n2_; have HO_11 := n3_; clear n0_ n1_ n2_ n3_ ho hb hg hat) | ((with_reducible refine gate_builtin (b := .append) (xs := #[.tmp 110, .tmp 112]) rfl ?_); at_builtin; refine Kd.R_append (Kd.slice 3 (Kd.int .i64)) (w0 := w) w.heap.size rfl (.tmp 110) (.tmp 112) 26 22 (.slice none 0 0) 24 rfl Try.underlying26 info22 rfl (by decide) (by omega) v110 ([] ++ x3_1.take (x14_5 : Int).toNat) x11_4 [.slice Ao48 x11_4.length co48] (fun _ => True) (fun k_ => some k_ ≠ (v110 : Value).ownBlock) rfl rfl ?aP (fun _ hk => ⟨trivial, hk⟩) ?aF ?aO ?aB ?aS ?aL ?_; (case aP => exact ⟨_, rfl, (by (with_reducible repeat (first | apply Kd.R_alloc | apply Kd.R_drewN | apply Kd.R_drew)); exact Kd.R_mono HO_11.out (fun _ hk => hk.2))⟩); (case aB => exact (by repeat (first | (with_reducible first | exact HB.out | apply below_alloc | apply pw_below_drewN | apply below_drew1) | exact HB.out))); (case aF => exact (fun _ _ => trivial)); (case aO => exact (by (with_reducible repeat (first | apply Kd.R_alloc | apply Kd.R_drewN | apply Kd.R_drew)); exact HO110.out)); (case aS => exact (below_size (by repeat (first | (with_reducible first | exact HB.out | apply below_alloc | apply pw_below_drewN | apply below_drew1) | exact HB.out)))); (case aL => have := LMc46.out; have := HK14.out; rw [List.length_append, List.length_nil, List.length_take]; omega); intro v113 w113 ho hb hg hat; have n0_ := Aside0.mk ho; have n1_ := Aside0.mk hb; have n2_ := Aside0.mk (Kd.R_after (ok := fun _ => True) (by (with_reducible repeat (first | apply Kd.R_alloc | apply Kd.R_drewN | apply Kd.R_drew)); exact Kd.R_mono HO_3.out (fun _ hk => ⟨trivial, hk.2⟩)) hg hat); clear HB HO_3 HO_11 HO110; have HO113 := n0_; have HB := n1_; have HO_3 := n2_; clear n0_ n1_ n2_ ho hb hg hat) | ((with_reducible refine gate_builtin (b := .append) (xs := #[.tmp 114, .tmp 117]) rfl ?_); at_builtin; refine Kd.R_append_rows (Kd.slice 3 (Kd.int .i64)) (w0 := w) w.heap.size rfl (.tmp 114) (.tmp 117) 26 22 (.slice none 0 0) 24 rfl Try.underlying26 info22 rfl (by decide) (by omega) v113 ([] ++ x3_1.take (x14_5 : Int).toNat ++ [x11_4]) (x3_1.drop (x14_5 : Int).toNat) A14 (x3_1.length - (x14_5 : Int).toNat) (co47 - (x14_5 : Int).toNat) (fun _ => True) (fun k_ => some k_ ≠ (v113 : Value).ownBlock) rfl rfl ?aO ?aR (fun _ _ hk => hk) (fun _ hk => ⟨trivial, hk⟩) (fun _ _ => trivial) ?aB ?aS ?aL ?_; (case aO => exact HO113.out); (case aR => rw [HA14.out]; exact RI.drop (Kd.R_mono HO_3.out (fun _ hk => hk.2)) (by have := HK14.out; omega)); (case aB => exact (by repeat (first | (with_reducible first | exact HB.out | apply below_alloc | apply pw_below_drewN | apply below_drew1) | exact HB.out))); (case aS => exact (below_size (by repeat (first | (with_reducible first | exact HB.out | apply below_alloc | apply pw_below_drewN | apply below_drew1) | exact HB.out)))); (case aL => have := LMc46.out; have := HK14.out; simp only [List.length_append, List.length_nil, List.length_take, List.length_singleton]; omega); intro v118 w118 ho hb hg hat; have n0_ := Aside0.mk (show Kd.R (Kd.slice 3 (Kd.int .i64)) 22 w118 w.heap.size (fun _ => True) v118 y134 from (by rw [Ny134.out]; exact ho)); have n1_ := Aside0.mk hb; clear HB HO_3 HO113; have HOX := n0_; have HB := n1_; clear n0_ n1_ ho hb hg hat))
                                                  go_roundg k5
                                                  case measure => have := HK1.out; have := HK2.out; have := HK3.out; have := HK4.out; have := HK5.out; omega
                                                  case rel => exact ⟨(y134), (wrap64 (x4_1 + 1)), (by first | rfl | (simp; done) | (simp [*]; done)), H', ⟨by have := HK1.out; have := HK2.out; have := HK3.out; have := HK4.out; have := HK5.out; omega⟩, ⟨by (with_reducible repeat (first | apply Kd.R_alloc | apply Kd.R_drewN | apply Kd.R_drew)); exact HOX.out⟩, ⟨by repeat (first | (with_reducible first | exact HB.out | apply below_alloc | apply pw_below_drewN | apply below_drew1) | exact HB.out)⟩⟩
                                                · rw [if_neg c46] at H
                                                  exact absurd H (by simp)
                                          · rw [if_neg c37] at H
                                            exact absurd H (by simp)
                                        · rw [if_neg c36] at H
                                          have c36b0 : decide (x14_5 < (x3_1.length : Int)) = false := decide_eq_false c36
                                          clear c36
                                          by_cases c49 : x14_5 = (x3_1.length : Int)
                                          · rw [if_pos c49] at H
                                            have HE49 := Aside0.mk c49
                                            clear c49
                                            by_cases c50 : x3_1.length < 5864062014805
                                            · rw [if_pos c50] at H
                                              have LMc50 := Aside0.mk c50
                                              clear c50
                                              obtain ⟨y137, hy137⟩ : ∃ y_ : List (List Int), y_ = (x3_1.take (x14_5 : Int).toNat ++ [x11_4] ++ x3_1.drop (x14_5 : Int).toNat) := ⟨_, rfl⟩
                                              replace H : (spec_riBefore.l0 k5 l0 y137 (wrap64 (x4_1 + 1))) = some r := by first | (rw [hy137]; with_reducible exact H) | (have H2_ := (Option.bind_some _ _).symm.trans H; rw [hy137]; with_reducible exact H2_) | (have H2_ := (Option.bind_some _ _).symm.trans H; with_reducible exact H2_) | with_reducible exact H | (rw [hy137]; exact H) | exact H
                                              have Ny137 := Aside0.mk hy137
                                              clear hy137
                                              have H' := Aside0.mk H
                                              clear H
                                              obtain ⟨Ao51, co51, eo51⟩ := Kd.R_slice HO_3.out
                                              subst eo51
                                              obtain ⟨Ao53, co53, eo53⟩ := Kd.R_slice HO_11.out
                                              subst eo53
                                              have HK14 := Aside0.mk (show (x14_5 : Int).toNat ≤ x3_1.length ∧ 0 ≤ x14_5 from by have := HE49.out; omega)
                                              obtain ⟨i014, hi014, _, hsz14, _⟩ := info_parts info22
                                              have hcutA := cut_to (P := Try.prog) 26 22 .i64 Try.underlying26 hi014 (Ao51) x3_1.length co51 x14_5 HK14.out.2 (by have := HK14.out; omega) (Kd.R_reads' HO_3.out).2.1
                                              have hcutB := cut_from (P := Try.prog) 26 22 .i64 Try.underlying26 hi014 1 hsz14 (Ao51) x3_1.length co51 x14_5 HK14.out.2 (by have := HK14.out; omega)
                                              obtain ⟨A14, HA14⟩ : ∃ A14, Aside0 (A14 = (if co51 = (x14_5 : Int).toNat then (Ao51 : Option Addr) else (Ao51 : Option Addr).map (·.add ((x14_5 : Int).toNat * 1)))) := ⟨_, ⟨rfl⟩⟩
                                              rw [← HA14.out] at hcutB
                                              clear hi014 hsz14
                                              go_wp2_with (first | ((with_reducible refine gate_dst (N := 106) rfl ?_); refine Kd.R_lit (Kd.slice 3 (Kd.int .i64)) _ 22 ?hg (N := 106) ?hd (xs := ([] : List (List Int))) (inner := []) (ok := fun _ => True) (okp := fun _ => True) ?hr ?hp (fun _ hk => hk) trivial (Below.refl _ _) (Nat.le_refl _) (by simp) ?_; (case hd => rfl); (case hg => rfl); (case hr => first | (go_simp; done) | (go_simp; rfl)); (case hp => exact (Reps.none _ _)); intro v106 w106 ho hb hg_ hnew_; have n0_ := Aside0.mk (Kd.R_lower ho (below_size (by repeat (first | (with_reducible first | exact HB.out | apply below_alloc | apply pw_below_drewN | apply below_drew1) | exact HB.out)))); have n1_ := Aside0.mk (below_step (by repeat (first | (with_reducible first | exact HB.out | apply below_alloc | apply pw_below_drewN | apply below_drew1) | exact HB.out)) hb); have n2_ := Aside0.mk (RI.old (by (with_reducible repeat (first | apply Kd.R_alloc | apply Kd.R_drewN | apply Kd.R_drew)); exact HO_3.out) hg_ hnew_); have n3_ := Aside0.mk (RI.old (by (with_reducible repeat (first | apply Kd.R_alloc | apply Kd.R_drewN | apply Kd.R_drew)); exact HO_11.out) hg_ hnew_); clear HB HO_3 HO_11; have HO106 := n0_; have HB := n1_; have HO_3 := n2_; have HO_11 := n3_; clear n0_ n1_ n2_ n3_ ho hb hg_ hnew_) | ((with_reducible refine gate_builtin (b := .append) (xs := #[.tmp 106, .tmp 109]) rfl ?_); at_builtin; refine Kd.R_append_rows (Kd.slice 3 (Kd.int .i64)) (w0 := w) w.heap.size rfl (.tmp 106) (.tmp 109) 26 22 (.slice none 0 0) 24 rfl Try.underlying26 info22 rfl (by decide) (by omega) v106 [] (x3_1.take (x14_5 : Int).toNat) Ao51 ((x14_5 : Int).toNat) co51 (fun _ => True) (fun k_ => some k_ ≠ (v106 : Value).ownBlock) rfl rfl ?aO ?aR (fun _ _ hk => hk) (fun _ hk => ⟨trivial, hk⟩) (fun _ _ => trivial) ?aB ?aS ?aL ?_; (case aO => exact HO106.out); (case aR => exact RI.take (Kd.R_mono HO_3.out (fun _ hk => hk.2)) (by have := HK14.out; omega)); (case aB => exact (by repeat (first | (with_reducible first | exact HB.out | apply below_alloc | apply pw_below_drewN | apply below_drew1) | exact HB.out))); (case aS => exact (below_size (by repeat (first | (with_reducible first | exact HB.out | apply below_alloc | apply pw_below_drewN | apply below_drew1) | exact HB.out)))); (case aL => have := LMc50.out; have := HK14.out; simp only [List.length_nil]; omega); intro v110 w110 ho hb hg hat; have n0_ := Aside0.mk ho; have n1_ := Aside0.mk hb; have n2_ := Aside0.mk (Kd.R_after (ok := fun _ => True) (by (with_reducible repeat (first | apply Kd.R_alloc | apply Kd.R_drewN | apply Kd.R_drew)); exact Kd.R_mono HO_3.out (fun _ hk => ⟨trivial, hk.2⟩)) hg hat); have n3_ := Aside0.mk (Kd.R_after (ok := fun _ => True) (by (with_reducible repeat (first | apply Kd.R_alloc | apply Kd.R_drewN | apply Kd.R_drew)); exact Kd.R_mono HO_11.out (fun _ hk => ⟨trivial, hk.2⟩)) hg hat); clear HB HO_3 HO_11 HO106; have HO110 := n0_; have HB := n1_; have HO_3 := n2_; have HO_11 := n3_; clear n0_ n1_ n2_ n3_ ho hb hg hat) | ((with_reducible refine gate_builtin (b := .append) (xs := #[.tmp 110, .tmp 112]) rfl ?_); at_builtin; refine Kd.R_append (Kd.slice 3 (Kd.int .i64)) (w0 := w) w.heap.size rfl (.tmp 110) (.tmp 112) 26 22 (.slice none 0 0) 24 rfl Try.underlying26 info22 rfl (by decide) (by omega) v110 ([] ++ x3_1.take (x14_5 : Int).toNat) x11_4 [.slice Ao53 x11_4.length co53] (fun _ => True) (fun k_ => some k_ ≠ (v110 : Value).ownBlock) rfl rfl ?aP (fun _ hk => ⟨trivial, hk⟩) ?aF ?aO ?aB ?aS ?aL ?_; (case aP => exact ⟨_, rfl, (by (with_reducible repeat (first | apply Kd.R_alloc | apply Kd.R_drewN | apply Kd.R_drew)); exact Kd.R_mono HO_11.out (fun _ hk => hk.2))⟩); (case aB => exact (by repeat (first | (with_reducible first | exact HB.out | apply below_alloc | apply pw_below_drewN | apply below_drew1) | exact HB.out))); (case aF => exact (fun _ _ => trivial)); (case aO => exact (by (with_reducible repeat (first | apply Kd.R_alloc | apply Kd.R_drewN | apply Kd.R_drew)); exact HO110.out)); (case aS => exact (below_size (by repeat (first | (with_reducible first | exact HB.out | apply below_alloc | apply pw_below_drewN | apply below_drew1) | exact HB.out)))); (case aL => have := LMc50.out; have := HK14.out; rw [List.length_append, List.length_nil, List.length_take]; omega); intro v113 w113 ho hb hg hat; have n0_ := Aside0.mk ho; have n1_ := Aside0.mk hb; have n2_ := Aside0.mk (Kd.R_after (ok := fun _ => True) (by (with_reducible repeat (first | apply Kd.R_alloc | apply Kd.R_drewN | apply Kd.R_drew)); exact Kd.R_mono HO_3.out (fun _ hk => ⟨trivial, hk.2⟩)) hg hat); clear HB HO_3 HO_11 HO110; have HO113 := n0_; have HB := n1_; have HO_3 := n2_; clear n0_ n1_ n2_ ho hb hg hat) | ((with_reducible refine gate_builtin (b := .append) (xs := #[.tmp 114, .tmp 117]) rfl ?_); at_builtin; refine Kd.R_append_rows (Kd.slice 3 (Kd.int .i64)) (w0 := w) w.heap.size rfl (.tmp 114) (.tmp 117) 26 22 (.slice none 0 0) 24 rfl Try.underlying26 info22 rfl (by decide) (by omega) v113 ([] ++ x3_1.take (x14_5 : Int).toNat ++ [x11_4]) (x3_1.drop (x14_5 : Int).toNat) A14 (x3_1.length - (x14_5 : Int).toNat) (co51 - (x14_5 : Int).toNat) (fun _ => True) (fun k_ => some k_ ≠ (v113 : Value).ownBlock) rfl rfl ?aO ?aR (fun _ _ hk => hk) (fun _ hk => ⟨trivial, hk⟩) (fun _ _ => trivial) ?aB ?aS ?aL ?_; (case aO => exact HO113.out); (case aR => rw [HA14.out]; exact RI.drop (Kd.R_mono HO_3.out (fun _ hk => hk.2)) (by have := HK14.out; omega)); (case aB => exact (by repeat (first | (with_reducible first | exact HB.out | apply below_alloc | apply pw_below_drewN | apply below_drew1) | exact HB.out))); (case aS => exact (below_size (by repeat (first | (with_reducible first | exact HB.out | apply below_alloc | apply pw_below_drewN | apply below_drew1) | exact HB.out)))); (case aL => have := LMc50.out; have := HK14.out; simp only [List.length_append, List.length_nil, List.length_take, List.length_singleton]; omega); intro v118 w118 ho hb hg hat; have n0_ := Aside0.mk (show Kd.R (Kd.slice 3 (Kd.int .i64)) 22 w118 w.heap.size (fun _ => True) v118 y137 from (by rw [Ny137.out]; exact ho)); have n1_ := Aside0.mk hb; clear HB HO_3 HO113; have HOX := n0_; have HB := n1_; clear n0_ n1_ ho hb hg hat))
                                              go_roundg k5
                                              case measure => have := HK1.out; have := HK2.out; have := HK3.out; have := HK4.out; have := HK5.out; omega
                                              case rel => exact ⟨(y137), (wrap64 (x4_1 + 1)), (by first | rfl | (simp; done) | (simp [*]; done)), H', ⟨by have := HK1.out; have := HK2.out; have := HK3.out; have := HK4.out; have := HK5.out; omega⟩, ⟨by (with_reducible repeat (first | apply Kd.R_alloc | apply Kd.R_drewN | apply Kd.R_drew)); exact HOX.out⟩, ⟨by repeat (first | (with_reducible first | exact HB.out | apply below_alloc | apply pw_below_drewN | apply below_drew1) | exact HB.out)⟩⟩
                                            · rw [if_neg c50] at H
                                              exact absurd H (by simp)
                                          · rw [if_neg c49] at H
                                            exact absurd H (by simp)
                            · rw [if_neg c29] at H
                              exact absurd H (by simp)
                          · rw [if_neg c28] at H
                            exact absurd H (by simp)
                  · rw [if_neg c22] at H
                    have c22b0 : ((rd x5_2 (l0.length : Int)) == 0) = false := beq_eq_false_iff_ne.mpr c22
                    have c22b1 : ((rd x5_2 (l0.length : Int)) != 0) = true := bne_iff_ne.mpr c22
                    have H' := Aside0.mk H
                    clear H
                    obtain ⟨Ao54, co54, eo54⟩ := Kd.R_slice HO_5.out
                    subst eo54
                    have p119 : 0 ≤ ((l0.length : Int) : Int) := of_decide_eq_true (by first | (with_reducible assumption) | assumption)
                    have q119 : (l0.length : Int) < (x5_2.length : Int) := of_decide_eq_true (by first | (with_reducible assumption) | assumption)
                    obtain ⟨ad119, e119, hx119_0⟩ := Kd.at_int (Kd.R_reads' HO_5.out).2.2 (l0.length : Int) p119 q119
                    cases e119
                    (try simp only [Go.IntWalk.toNatUp] at hx119_0)
                    replace p119 := eq_true p119
                    replace q119 := eq_true q119
                    go_wp2
                    go_roundg k2
                    case measure => have := HK1.out; have := HK2.out; omega
                    case rel => exact ⟨(x3_1), (wrap64 (x4_1 + 1)), (by first | rfl | (simp; done) | (simp [*]; done)), H', ⟨by have := HK1.out; have := HK2.out; omega⟩, ⟨by (with_reducible repeat (first | apply Kd.R_alloc | apply Kd.R_drewN | apply Kd.R_drew)); exact Kd.R_mono HO_3.out (fun _ hk => trivial)⟩, ⟨by repeat (first | (with_reducible first | exact HB.out | apply below_alloc | apply pw_below_drewN | apply below_drew1) | exact HB.out)⟩⟩
                · rw [if_neg c21] at H
                  exact absurd H (by simp)
              · rw [if_neg c20] at H
                exact absurd H (by simp)
      · rw [if_neg c3] at H
        have c3b0 : decide (x4_1 < (ji2)) = false := decide_eq_false c3
        clear c3
        obtain rfl := Option.some.inj H
        go_wp2
        go_ret
        exact ⟨_, by first | rfl | (simp [errW_none, errW_some] <;> rfl) | (simp only [← hji2]; first | rfl | (simp [errW_none, errW_some] <;> rfl)) | (simp [*, errW_none, errW_some] <;> rfl), by (with_reducible repeat (first | apply Kd.R_alloc | apply Kd.R_drewN | apply Kd.R_drew)); exact HO_3.out, by repeat (first | (with_reducible first | exact HB.out | apply below_alloc | apply pw_below_drewN | apply below_drew1) | exact HB.out)⟩

end Go.Proofs.Ytdiobgmdmeomjaa.PFnExactHasRingBefore
