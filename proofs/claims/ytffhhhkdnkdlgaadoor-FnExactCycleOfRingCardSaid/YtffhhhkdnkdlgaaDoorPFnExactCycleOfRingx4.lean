-- Written by a program of this session (wip/tool/myprint.py) over the translation. Not trusted: Lean checks it.
import Derived.Test.YtffhhhkdnkdlgaaDoorPFnExactCycleOfRingx0
import Derived.Test.YtffhhhkdnkdlgaaDoorPFnExactCycleOfRingx1
import Derived.Test.YtffhhhkdnkdlgaaDoorPFnExactCycleOfRingx2
import Derived.Test.YtffhhhkdnkdlgaaDoorPFnExactCycleOfRingx3
namespace Go.Proofs.YtffhhhkdnkdlgaaDoor.PFnExactCycleOfRing
open Go.RowKit Go.Proofs.YtffhhhkdnkdlgaaDoorW.PrintWords Go.Proofs.YtffhhhkdnkdlgaaDoorW.PrintLast Go.Proofs.YtffhhhkdnkdlgaaDoorW.PrintMore
attribute [local go_sem] max2_int min2_int max_two min_two max_three min_three max_four min_four   -- for this text's walks alone
set_option linter.unusedVariables false
set_option linter.unusedSimpArgs false

/-! ### laws_markIntS: function 19 -/
def laws_markIntS.l0 : Nat → List Int → Int → Int → Option (Int × List Int)
  | 0, _, _, _ => none
  | k + 1, x0, x1, x5 => if x5 < (x0.length : Int) then (if 0 ≤ x5 then (laws_markIntS.l0 k (x0.set (x5 : Int).toNat x1) (wrap64 (x1 + 1)) (wrap64 (x5 + 1))) else (none)) else (some (x1, x0))
def laws_markIntS.f (k : Nat) (l0 : List Int) (a1 : Int) : Option (Int × List Int) := laws_markIntS.l0 k l0 a1 0
theorem laws_markIntS.mono_l : ∀ k, (∀ y0 y1 y2, LeO (laws_markIntS.l0 k y0 y1 y2) (laws_markIntS.l0 (k + 1) y0 y1 y2))
  | 0 => fun _ _ _ r h => by simp [laws_markIntS.l0] at h
  | k + 1 => by
    have ih0 := laws_markIntS.mono_l k
    · intro y0 y1 y2
      unfold laws_markIntS.l0
      repeat' first
      | (with_reducible exact ih0 _ _ _)
      | (with_reducible exact LeO.refl _)
      | (with_reducible exact LeO.none _)
      | (with_reducible refine LeO.ite ?_ ?_)
      | (with_reducible refine LeO.bind ?_ (fun _ => ?_))
      | exact ih0 _ _ _
      | exact LeO.none _
      | refine LeO.ite ?_ ?_
      | refine LeO.bind ?_ (fun _ => ?_)
theorem laws_markIntS.mono : ∀ a0 a1 k, LeO (laws_markIntS.f k a0 a1) (laws_markIntS.f (k + 1) a0 a1) := by
  intro a0 a1 k
  have ih0 := laws_markIntS.mono_l k
  unfold laws_markIntS.f
  repeat' first
      | (with_reducible exact ih0 _ _ _)
      | (with_reducible exact LeO.refl _)
      | (with_reducible exact LeO.none _)
      | (with_reducible refine LeO.ite ?_ ?_)
      | (with_reducible refine LeO.bind ?_ (fun _ => ?_))
      | exact ih0 _ _ _
      | exact LeO.none _
      | refine LeO.ite ?_ ?_
      | refine LeO.bind ?_ (fun _ => ?_)
set_option maxHeartbeats 8000000 in
set_option maxRecDepth 100000 in
theorem laws_markIntS.calls (k : Nat) (P0_ : Nat → Prop) (u9000_ : Value) (l0 : List Int) (a1 : Int) (r1 : Int) (r2 : List Int) (w0 w : World) (hB : Below w0.heap.size w0 w) (ho0 : Kd.R (Kd.int .i64) 3 w w0.heap.size P0_ u9000_ l0) (h : laws_markIntS.f k l0 a1 = some (r1, r2)) :
    Calls Tryd.prog 19 #[u9000_, .int .i64 a1] w fun e w' => e = .returned (.int .i64 r1) ∧ Kd.R (Kd.int .i64) 3 w' w0.heap.size (fun k_ => (P0_ k_ ∨ w.heap.size ≤ k_)) u9000_ r2 ∧ Below w0.heap.size w0 w' ∧ Kept w w' (fun k_ => P0_ k_) := by
  have HO0 := Aside0.mk (show Kd.R (Kd.int .i64) 3 w w0.heap.size (fun k_ => (P0_ k_ ∨ w.heap.size ≤ k_)) u9000_ l0 from Kd.R_mono ho0 (fun k_ hk => (.inl hk)))
  have HK := Aside0.mk (Kept.refl w (fun k_ => P0_ k_))
  have HW0 := Aside0.mk hB.size
  have HB := Aside0.mk hB
  clear hB
  have H : (laws_markIntS.l0 k l0 a1 0) = some (r1, r2) := h
  clear h
  have H' := Aside0.mk H
  clear H
  go_enter Tryd.func19, Tryd.ntmps19
  go_wp2
  go_loopg [1, 5] k (fun kq v1 v5 w' => ∃ (x0_1 : List Int) (x1_1 : Int) (x5_1 : Int), v1 = .int .i64 x1_1 ∧ v5 = .int .i64 x5_1 ∧ Aside0 (laws_markIntS.l0 kq x0_1 x1_1 x5_1 = some (r1, r2)) ∧ Aside0 (kq ≤ k) ∧ Aside0 (Kd.R (Kd.int .i64) 3 w' w0.heap.size (fun k_ => (P0_ k_ ∨ w.heap.size ≤ k_)) u9000_ x0_1) ∧ Aside0 (Kept w w' (fun k_ => P0_ k_)) ∧ Aside0 (Below w0.heap.size w0 w'))
  case atStart => exact ⟨(l0), (a1), (0), (by first | rfl | (simp; done) | (simp [*]; done)), (by first | rfl | (simp; done) | (simp [*]; done)), H', ⟨Nat.le_refl _⟩, ⟨by (with_reducible repeat (first | apply Kd.R_alloc | apply Kd.R_drewN | apply Kd.R_drew)); exact HO0.out⟩, ⟨by repeat (first | (with_reducible first | exact HK.out | apply Kept.alloc | apply Kept.drewN | apply Kept.drew) | exact HK.out)⟩, ⟨by repeat (first | (with_reducible first | exact HB.out | apply below_alloc | apply pw_below_drewN | apply below_drew1) | exact HB.out)⟩⟩
  case round =>
    clear H'
    try clear c1
    try clear p2
    obtain ⟨x0_1, x1_1, x5_1, rfl, rfl, HA, HK1, HO_0, HK, HB⟩ := hrel
    cases gk with
    | zero => exact absurd HA.out (by simp [laws_markIntS.l0])
    | succ k1 =>
      have H := HA.out
      clear HA
      simp only [laws_markIntS.l0] at H
      by_cases c3 : x5_1 < (x0_1.length : Int)
      · rw [if_pos c3] at H
        have c3b0 : decide (x5_1 < (x0_1.length : Int)) = true := decide_eq_true c3
        clear c3
        by_cases c4 : 0 ≤ x5_1
        · rw [if_pos c4] at H
          have c4b0 : decide (0 ≤ x5_1) = true := decide_eq_true c4
          clear c4
          obtain ⟨y209, hy209⟩ : ∃ y_ : List Int, y_ = (x0_1.set (x5_1 : Int).toNat x1_1) := ⟨_, rfl⟩
          replace H : (laws_markIntS.l0 k1 y209 (wrap64 (x1_1 + 1)) (wrap64 (x5_1 + 1))) = some (r1, r2) := by first | (rw [hy209]; with_reducible exact H) | (have H2_ := (Option.bind_some _ _).symm.trans H; rw [hy209]; with_reducible exact H2_) | (have H2_ := (Option.bind_some _ _).symm.trans H; with_reducible exact H2_) | with_reducible exact H | (rw [hy209]; exact H) | exact H
          have Ny209 := Aside0.mk hy209
          clear hy209
          have H' := Aside0.mk H
          clear H
          obtain ⟨Ao6, co6, eo6⟩ := Kd.R_slice HO_0.out
          subst eo6
          have p5 : 0 ≤ (x5_1 : Int) := of_decide_eq_true (by first | (with_reducible assumption) | assumption)
          have q5 : (x5_1 : Int) < ((x0_1.length : Int) : Int) := of_decide_eq_true (by first | (with_reducible assumption) | assumption)
          obtain ⟨go5, co5, eo5, gb5, gl5, cl5, HG5⟩ := Kd.R_form HO_0.out (by omega)
          (first | cases eo5 | (injection eo5 with ea_ en_ ec_; (first | subst ea_ | (injection ea_ with ea_; subst ea_)); subst ec_; clear en_))
          have GB5 := Aside0.mk gb5
          have GG5 := Aside0.mk HG5
          clear gb5 gl5 HG5
          have HMgo5 := Aside0.mk (show (P0_ go5 ∨ w.heap.size ≤ go5) from (HO_0.out.1 _ rfl))
          obtain ⟨hx5_0, hf5_0⟩ := Kd.R_celln 0 HO_0.out (x5_1 : Int) p5 q5
          replace p5 := eq_true p5
          replace q5 := eq_true q5
          have HP7 := Kd.R_putg HO_0.out (x5_1 : Int) x1_1
          go_wp2_with (first | ((with_reducible refine gate_store (t := 3) (p := 15) rfl ?_); refine store_event (t := 3) (p := 15) (v := ?vo_w8) (w1 := (wr.setCell ⟨go5, (x5_1 : Int).toNat, none⟩ (.int .i64 x1_1))) ?hg ?ho ?hn ?hr ?_; (case ho => rfl); (case hg => rfl); (case hn => rfl); (case hr => first | (go_simp; done) | (go_simp; rfl)); intro w8 hw; have hg : wr.grownBy w8 (some go5) := (by rw [hw]; exact HP7.2); have hp_ : Kd.R (Kd.int .i64) 3 w8 w0.heap.size (fun k_ => (P0_ k_ ∨ w.heap.size ≤ k_)) (.slice (some ⟨go5, 0, none⟩) x0_1.length co6) y209 := (by rw [hw, Ny209.out]; exact HP7.1); clear HP7; have n0_ := Aside0.mk (hp_); have n1_ := Aside0.mk ((by rw [hw]; exact below_set (HB.out) GB5.out : Below w0.heap.size w0 w8)); have n2_ := Aside0.mk (Kept.of_grown (S := (fun k_ => P0_ k_)) hg (by repeat (first | (with_reducible first | exact HK.out | apply Kept.alloc | apply Kept.drewN | apply Kept.drew) | exact HK.out)) (fun k_ e_ => (HO_0.out.1 k_ e_))); clear HO_0; clear HB; clear HK; have HO_0 := n0_; have HB := n1_; have HK := n2_; clear n0_ n1_ n2_; clear hg hw hp_))
          go_roundg k1
          case measure => have := HK1.out; omega
          case rel => exact ⟨(y209), (wrap64 (x1_1 + 1)), (wrap64 (x5_1 + 1)), (by first | rfl | (simp; done) | (simp [*]; done)), (by first | rfl | (simp; done) | (simp [*]; done)), H', ⟨by have := HK1.out; omega⟩, ⟨by (with_reducible repeat (first | apply Kd.R_alloc | apply Kd.R_drewN | apply Kd.R_drew)); exact HO_0.out⟩, ⟨by repeat (first | (with_reducible first | exact HK.out | apply Kept.alloc | apply Kept.drewN | apply Kept.drew) | exact HK.out)⟩, ⟨by repeat (first | (with_reducible first | exact HB.out | apply below_alloc | apply pw_below_drewN | apply below_drew1) | exact HB.out)⟩⟩
        · rw [if_neg c4] at H
          exact absurd H (by simp)
      · rw [if_neg c3] at H
        have c3b0 : decide (x5_1 < (x0_1.length : Int)) = false := decide_eq_false c3
        clear c3
        simp only [Option.some.injEq, Prod.mk.injEq] at H
        obtain ⟨rfl, rfl⟩ := H
        obtain ⟨Ao9, co9, eo9⟩ := Kd.R_slice HO_0.out
        subst eo9
        go_wp2
        go_ret
        exact ⟨by first | rfl | (simp [errW_none, errW_some] <;> rfl) | (simp [*, errW_none, errW_some] <;> rfl), by (with_reducible repeat (first | apply Kd.R_alloc | apply Kd.R_drewN | apply Kd.R_drew)); exact HO_0.out, by repeat (first | (with_reducible first | exact HB.out | apply below_alloc | apply pw_below_drewN | apply below_drew1) | exact HB.out), by repeat (first | (with_reducible first | exact HK.out | apply Kept.alloc | apply Kept.drewN | apply Kept.drew) | exact HK.out)⟩

/-! ### laws_markIntSS: function 32, by hand -/
/-- A row of rows of whole numbers: its cells lead to rows of the call's own (from base on), no two to one block, none to its own; all blocks are ok. -/
def Rws (w : World) (base : Nat) (ok : Nat → Prop) (v : Value) (xs : List (List Int)) : Prop :=
  ∃ (A : Option Addr) (c : Nat) (f : Nat → Nat), v = .slice A xs.length c ∧ xs.length ≤ c ∧ xs.length ≤ 9223372036854775807 ∧ (0 < xs.length → ∃ ad, A = some ad ∧ ok ad.block) ∧
    ∀ (j : Nat) x, xs[j]? = some x → ∃ ad u, A = some ad ∧ w.cell? (ad.add j) = some u ∧ Kd.R (Kd.int .i64) 3 w base (fun k => ok k ∧ k ≠ ad.block ∧ f k = j) u x
section
variable {w w1 : World} {base : Nat} {ok ok' : Nat → Prop} {v : Value} {xs : List (List Int)}
theorem Rws.slice (h : Rws w base ok v xs) : ∃ A c, v = .slice A xs.length c := by
  obtain ⟨A, c, f, hv, _⟩ := h
  exact ⟨A, c, hv⟩
theorem Rws.nil (w : World) (base : Nat) (ok : Nat → Prop) : Rws w base ok (.slice none 0 0) [] := ⟨none, 0, fun _ => 0, rfl, Nat.le_refl _, by simp, fun h => absurd h (by simp), fun j x h => by simp at h⟩
theorem Rws.mono (h : Rws w base ok v xs) (hok : ∀ k, ok k → ok' k) : Rws w base ok' v xs := by
  obtain ⟨A, c, f, hv, h1, h2, h3, h4⟩ := h
  refine ⟨A, c, f, hv, h1, h2, fun hp => ?_, fun j x hx => ?_⟩
  · obtain ⟨ad, e, ho⟩ := h3 hp
    exact ⟨ad, e, hok _ ho⟩
  · obtain ⟨ad, u, e, hc, hr⟩ := h4 j x hx
    exact ⟨ad, u, e, hc, Kd.R_mono hr (fun k hk => ⟨hok k hk.1, hk.2⟩)⟩
theorem Rws.step (h : Rws w base ok v xs) (hm : ∀ k, ok k → k < w.heap.size → w1.heap[k]? = w.heap[k]?) : Rws w1 base ok v xs := by
  obtain ⟨A, c, f, hv, h1, h2, h3, h4⟩ := h
  refine ⟨A, c, f, hv, h1, h2, h3, fun j x hx => ?_⟩
  obtain ⟨ad, u, e, hc, hr⟩ := h4 j x hx
  have hp : 0 < xs.length := by have := (List.getElem?_eq_some_iff.1 hx).1; omega
  obtain ⟨ad', e', ho⟩ := h3 hp
  rw [e] at e'
  cases e'
  refine ⟨ad, u, e, ?_, Kd.R_step hr (fun k hk hlt => hm k hk.1 hlt)⟩
  have hlt : (ad.add j).block < w.heap.size := World.block_lt_of_cell? w _ hc
  have hb : (ad.add j).block = ad.block := add_block ad j
  have := hm ad.block ho (by rw [← hb]; exact hlt)
  rw [← hb] at this
  simpa [World.cell?, this] using hc
theorem Rws.lower {base' : Nat} (h : Rws w base ok v xs) (hb : base' ≤ base) : Rws w base' ok v xs := by
  obtain ⟨A, c, f, hv, h1, h2, h3, h4⟩ := h
  refine ⟨A, c, f, hv, h1, h2, h3, fun j x hx => ?_⟩
  obtain ⟨ad, u, e, hc, hr⟩ := h4 j x hx
  exact ⟨ad, u, e, hc, Kd.R_lower hr hb⟩
theorem Rws.below (h : Rws w base ok v xs) (hb : Below w.heap.size w w1) : Rws w1 base ok v xs := Rws.step h (fun k _ hk => hb.block k hk)
theorem Rws.kept {S : Nat → Prop} (h : Rws w base ok v xs) (hk : Kept w w1 S) (hne : ∀ k, ok k → ¬ S k) : Rws w1 base ok v xs := Rws.step h (fun k ho hlt => hk.2 k hlt (hne k ho))
theorem Rws.reads (h : Rws w base ok v xs) : ∃ A c, v = .slice A xs.length c ∧ xs.length ≤ c ∧ Kd.C (Kd.slice 3 (Kd.int .i64)) w A xs.length xs := by
  obtain ⟨A, c, f, hv, h1, h2, h3, h4⟩ := h
  refine ⟨A, c, hv, h1, rfl, h2, fun hp => ?_⟩
  obtain ⟨ad, e, ho⟩ := h3 hp
  refine ⟨ad, e, fun j x hx => ?_⟩
  obtain ⟨ad', u, e', hc, hr⟩ := h4 j x hx
  rw [e] at e'
  cases e'
  obtain ⟨A1, c1, hu, hl, hC⟩ := Kd.R_reads hr
  refine ⟨[u], rfl, ⟨A1, c1, by rw [hu], hl, hC⟩, fun i z hz => ?_⟩
  have hi : i = 0 := by have := (List.getElem?_eq_some_iff.1 hz).1; simp at this; omega
  subst hi
  have hz' : u = z := by simpa using hz
  subst hz'
  have : (Kd.slice 3 (Kd.int .i64)).sz = 1 := rfl
  rw [this, Nat.mul_one, Nat.add_zero]
  exact hc
/-- An inner row has been written in its place. -/
theorem Rws.put {f : Nat → Nat} {A : Option Addr} {c j : Nat} {x y : List Int} {ad : Addr} {u : Value} (h1 : xs.length ≤ c) (h2 : xs.length ≤ 9223372036854775807) (h3 : 0 < xs.length → ∃ ad, A = some ad ∧ ok ad.block)
    (h4 : ∀ (j : Nat) x, xs[j]? = some x → ∃ ad u, A = some ad ∧ w.cell? (ad.add j) = some u ∧ Kd.R (Kd.int .i64) 3 w base (fun k => ok k ∧ k ≠ ad.block ∧ f k = j) u x)
    (hA : A = some ad) (hx : xs[j]? = some x) (hc : w.cell? (ad.add j) = some u) (hk : Kept w w1 (fun k => some k = u.ownBlock)) (ho : ∀ k, u.ownBlock = some k → ok k ∧ k ≠ ad.block ∧ f k = j)
    (hr : Kd.R (Kd.int .i64) 3 w1 base (fun k => some k = u.ownBlock) u y) : Rws w1 base ok (.slice A xs.length c) (xs.set j y) := by
  refine ⟨A, c, f, by rw [List.length_set], by rw [List.length_set]; exact h1, by rw [List.length_set]; exact h2, by rw [List.length_set]; exact h3, fun i z hz => ?_⟩
  have hout : ∀ i' (q : Value), w.cell? (ad.add i') = some q → w1.cell? (ad.add i') = some q := fun i' q hq => cell_kept hq hk (by rw [add_block]; intro e; exact (ho _ e.symm).2.1 rfl)
  rw [List.getElem?_set] at hz
  by_cases hij : j = i
  · subst hij
    rw [if_pos rfl, if_pos (List.getElem?_eq_some_iff.1 hx).1] at hz
    obtain rfl := Option.some.inj hz
    exact ⟨ad, u, hA, hout _ _ hc, Kd.R_mono hr (fun k hk' => ho k hk'.symm)⟩
  · rw [if_neg hij] at hz
    obtain ⟨ad', u', e', hc', hr'⟩ := h4 i z hz
    rw [hA] at e'
    cases e'
    refine ⟨ad, u', hA, hout _ _ hc', Kd.R_kept hr' hk (fun k hk' e => ?_)⟩
    have := (ho k e.symm).2.2
    have h5 := hk'.2.2
    omega
/-- Out of a row of rows of the call's own whose rows lie apart. -/
theorem Rws.of_S {A : Option Addr} {n c : Nat} (h : Kd.S (Kd.slice 3 (Kd.int .i64)) 22 w base ok (.slice A n c) xs) : Rws w base ok (.slice A n c) xs := by
  obtain ⟨hn, hc, hC⟩ := Kd.S_reads' h
  obtain ⟨f, hR⟩ := h
  subst hn
  refine ⟨A, c, f, rfl, hc, hC.2.1, fun hp => ?_, fun j x hx => ?_⟩
  · obtain ⟨ad, e, _⟩ := hC.2.2 hp
    subst e
    exact ⟨ad, rfl, hR.1 _ rfl⟩
  · have hlt := (List.getElem?_eq_some_iff.1 hx).1
    obtain ⟨ad, e, _⟩ := hC.2.2 (by omega)
    subst e
    obtain ⟨cs, hl, hM, hcell⟩ := Kd.R_getA hR (x, 0) (j : Int) (by omega) (by omega)
    rw [Int.toNat_natCast, List.getD_eq_getElem?_getD, Kd.zip_at hx] at hM
    obtain ⟨u, hcs, hr⟩ := hM
    subst hcs
    have := hcell 0 u rfl
    rw [Int.toNat_natCast, show (Kd.tag f (Kd.slice 3 (Kd.int .i64))).sz = 1 from rfl, Nat.mul_one, Nat.add_zero] at this
    exact ⟨ad, u, rfl, this, Kd.R_mono hr (fun k hk => ⟨hk.1.1, fun e => hk.1.2 (by simp [Value.ownBlock, e]), hk.2⟩)⟩
/-- The rows from one on. -/
theorem Rws.drop {A : Option Addr} {n c m : Nat} (h : Rws w base ok (.slice A n c) xs) (hm : m ≤ n) : Rws w base ok (.slice (A.map (·.add m)) (n - m) (c - m)) (xs.drop m) := by
  obtain ⟨A', c', f, hv, h1, h2, h3, h4⟩ := h
  cases hv
  refine ⟨_, _, fun k => f k - m, by rw [List.length_drop], by rw [List.length_drop]; omega, by rw [List.length_drop]; omega, fun hp => ?_, fun j x hx => ?_⟩
  · rw [List.length_drop] at hp
    obtain ⟨ad, e, ho⟩ := h3 (by omega)
    subst e
    exact ⟨_, rfl, by rw [add_block]; exact ho⟩
  · rw [List.getElem?_drop] at hx
    obtain ⟨ad, u, e, hc, hr⟩ := h4 _ x hx
    subst e
    refine ⟨_, u, rfl, by rw [show (ad.add m).add j = ad.add (m + j) from by by_cases e1 : m = 0 <;> by_cases e2 : j = 0 <;> simp [Addr.add, e1, e2, Nat.add_assoc]]; exact hc, Kd.R_mono hr (fun k hk => ⟨hk.1, by rw [add_block]; exact hk.2.1, ?_⟩)⟩
    show f k - m = j
    have h5 : f k = m + j := hk.2.2
    omega
theorem Rws.empty {A : Option Addr} {c : Nat} : Rws w base ok (.slice A 0 c) [] := ⟨A, c, fun _ => 0, rfl, Nat.zero_le _, by simp, fun h => absurd h (by simp), fun j x h => by simp at h⟩
/-- The rows from one on, as the cut has it. -/
theorem Rws.cut {A : Option Addr} {n c m : Nat} (h : Rws w base ok (.slice A n c) xs) (hm : m ≤ n) : Rws w base ok (.slice (if c = m then A else A.map (·.add (m * 1))) (n - m) (c - m)) (xs.drop m) := by
  have hn : n = xs.length := by
    obtain ⟨_, _, _, hv, _⟩ := h
    injection hv with _ h2 _
  have hc : n ≤ c := by
    obtain ⟨_, _, _, hv, h1, _⟩ := h
    injection hv with _ h2 h3
    omega
  by_cases e : c = m
  · have e1 : n - m = 0 := by omega
    rw [if_pos e, e1, List.drop_eq_nil_of_le (by omega)]
    exact Rws.empty
  · rw [if_neg e, Nat.mul_one]
    exact Rws.drop h hm
end
def laws_markIntSS.l0 : Nat → List (List Int) → Int → Int → Option (Int × List (List Int))
  | 0, _, _, _ => none
  | k + 1, x0, x1, x5 => if x5 < (x0.length : Int) then (if 0 ≤ x5 then ((laws_markIntS.f k (x0.getD x5.toNat []) x1).bind fun bt => (laws_markIntSS.l0 k (x0.set x5.toNat bt.2) bt.1 (wrap64 (x5 + 1)))) else (none)) else (some (x1, x0))
def laws_markIntSS.f (k : Nat) (l0 : List (List Int)) (a1 : Int) : Option (Int × List (List Int)) := laws_markIntSS.l0 k l0 a1 0
theorem laws_markIntSS.mono_l : ∀ k, (∀ y0 y1 y2, LeO (laws_markIntSS.l0 k y0 y1 y2) (laws_markIntSS.l0 (k + 1) y0 y1 y2))
  | 0 => fun _ _ _ r h => by simp [laws_markIntSS.l0] at h
  | k + 1 => fun y0 y1 y2 => by
    have ih0 := laws_markIntSS.mono_l k
    unfold laws_markIntSS.l0
    exact LeO.ite (LeO.ite (LeO.bind (laws_markIntS.mono _ _ _) (fun _ => ih0 _ _ _)) (LeO.refl _)) (LeO.refl _)
theorem laws_markIntSS.mono : ∀ a0 a1 k, LeO (laws_markIntSS.f k a0 a1) (laws_markIntSS.f (k + 1) a0 a1) := fun _ _ k => laws_markIntSS.mono_l k _ _ _
set_option maxHeartbeats 8000000 in
set_option maxRecDepth 100000 in
theorem laws_markIntSS.calls (k : Nat) (ok : Nat → Prop) (v : Value) (l0 : List (List Int)) (a1 : Int) (r1 : Int) (r2 : List (List Int)) (w0 w : World) (hB : Below w0.heap.size w0 w) (hr : Rws w w0.heap.size ok v l0) (h : laws_markIntSS.f k l0 a1 = some (r1, r2)) :
    Calls Tryd.prog 32 #[v, .int .i64 a1] w fun e w' => e = .returned (.int .i64 r1) ∧ Rws w' w0.heap.size ok v r2 ∧ Below w0.heap.size w0 w' ∧ Kept w w' ok := by
  obtain ⟨A, c, hv⟩ := hr.slice
  subst hv
  have HR := Aside0.mk hr
  have HK := Aside0.mk (Kept.refl w ok)
  have HB := Aside0.mk hB
  have H' := Aside0.mk (show laws_markIntSS.l0 k l0 a1 0 = some (r1, r2) from h)
  have hmx : l0.length ≤ 9223372036854775807 := by
    obtain ⟨_, _, _, _, _, h2, _⟩ := hr
    exact h2
  clear hr h hB
  go_enter Tryd.func32, Tryd.ntmps32
  go_wp2
  go_loopg [1, 5] k (fun kq v1 v5 w' => ∃ (x0 : List (List Int)) (x1 : Int) (x5 : Int), v1 = .int .i64 x1 ∧ v5 = .int .i64 x5 ∧ x0.length = l0.length ∧ Aside0 (laws_markIntSS.l0 kq x0 x1 x5 = some (r1, r2)) ∧ Aside0 (kq ≤ k) ∧ Aside0 (Rws w' w0.heap.size ok (.slice A l0.length c) x0) ∧ Aside0 (Kept w w' ok) ∧ Aside0 (Below w0.heap.size w0 w'))
  case atStart => exact ⟨l0, a1, 0, rfl, rfl, rfl, H', ⟨Nat.le_refl _⟩, HR, HK, HB⟩
  case round =>
    clear H' HR HK HB
    obtain ⟨x0, x1, x5, rfl, rfl, hx0, HA, HK1, HR, HK, HB⟩ := hrel
    have HX := Aside0.mk hx0
    clear hx0
    cases gk with
    | zero => exact absurd HA.out (by simp [laws_markIntSS.l0])
    | succ k1 =>
      have H := HA.out
      clear HA
      simp only [laws_markIntSS.l0] at H
      by_cases c3 : x5 < (x0.length : Int)
      · rw [if_pos c3] at H
        have c3b : decide (x5 < (l0.length : Int)) = true := decide_eq_true (by have := HX.out; omega)
        by_cases c4 : 0 ≤ x5
        · rw [if_pos c4] at H
          obtain ⟨⟨y1, y2⟩, A2, H⟩ := Option.bind_eq_some_iff.mp H
          have HA2 := Aside0.mk A2
          have H' := Aside0.mk H
          obtain ⟨j, rfl⟩ := Int.eq_ofNat_of_zero_le c4
          have hj : j < x0.length := by omega
          have hjl : (j : Int) < (l0.length : Int) := of_decide_eq_true c3b
          obtain ⟨A', cc, f, hv, g1, g2, g3, g4⟩ := HR.out
          have hgj : x0[j]? = some (x0.getD j []) := by rw [List.getD_eq_getElem?_getD, List.getElem?_eq_getElem hj]; rfl
          obtain ⟨ad, u, e, hcell, hri⟩ := g4 j _ hgj
          injection hv with hv1 hv2 hv3
          subst hv1
          subst hv3
          subst e
          have hub : ∀ q, u.ownBlock = some q → ok q ∧ q ≠ ad.block ∧ f q = j := fun q hq => hri.1 q hq
          have HC2 := Aside0.mk (laws_markIntS.calls k1 (fun q => some q = u.ownBlock) u (x0.getD j []) x1 y1 y2 w0 wr HB.out (Kd.R_tight rfl hri) (by have := HA2.out; rwa [Int.toNat_natCast] at this))
          have HPUT := Aside0.mk (fun (w1 : World) (hk : Kept wr w1 (fun q => some q = u.ownBlock)) (hr : Kd.R (Kd.int .i64) 3 w1 w0.heap.size (fun q => some q = u.ownBlock) u y2) => Rws.put g1 g2 g3 g4 rfl hgj hcell hk hub hr)
          have HUB := Aside0.mk hub
          have hin : Nat.lt j l0.length := by show j < l0.length; omega
          clear g1 g2 g3 g4 hri hub H A2 hgj hv2 hin
          go_wp2_with (go_at_call 19; refine HC2.out.mono ?_; rintro e w9 ⟨rfl, hr9, hb9, hk9⟩; have HR9 := Aside0.mk (HPUT.out w9 hk9 (Kd.R_tight rfl hr9)); have HB9 := Aside0.mk hb9; have HK9 := Aside0.mk (HK.out.then_ hk9 (fun q hq => Or.inl (HUB.out q hq.symm).1)); clear hr9 hb9 hk9)
          go_roundg k1
          case measure => have := HK1.out; omega
          case rel => exact ⟨x0.set j y2, y1, wrap64 ((j : Int) + 1), rfl, (by congr 1; unfold wrap64; omega), by rw [List.length_set]; exact HX.out, (by have := H'.out; rw [Int.toNat_natCast] at this; exact ⟨this⟩), ⟨by have := HK1.out; omega⟩, ⟨by rw [← HX.out]; exact HR9.out⟩, HK9, HB9⟩
        · rw [if_neg c4] at H
          exact absurd H (by simp)
      · rw [if_neg c3] at H
        have c3b : decide (x5 < (l0.length : Int)) = false := decide_eq_false (by have := HX.out; omega)
        clear c3
        simp only [Option.some.injEq, Prod.mk.injEq] at H
        obtain ⟨rfl, rfl⟩ := H
        go_wp2
        go_ret
        exact ⟨rfl, HR.out, HB.out, HK.out⟩

/-! ### laws_heldIntS: function 20 -/
def laws_heldIntS.l0 : Nat → List Int → Int → Int → Option (Int)
  | 0, _, _, _ => none
  | k + 1, x0, x1, x5 => if x5 < (x0.length : Int) then (if 0 ≤ x5 then (if (rd x0 x5) = x1 then (laws_heldIntS.l0 k x0 (wrap64 (x1 + 1)) (wrap64 (x5 + 1))) else (some (-1))) else (none)) else (some x1)
def laws_heldIntS.f (k : Nat) (l0 : List Int) (a1 : Int) : Option (Int) := laws_heldIntS.l0 k l0 a1 0
theorem laws_heldIntS.mono_l : ∀ k, (∀ y0 y1 y2, LeO (laws_heldIntS.l0 k y0 y1 y2) (laws_heldIntS.l0 (k + 1) y0 y1 y2))
  | 0 => fun _ _ _ r h => by simp [laws_heldIntS.l0] at h
  | k + 1 => by
    have ih0 := laws_heldIntS.mono_l k
    · intro y0 y1 y2
      unfold laws_heldIntS.l0
      repeat' first
      | (with_reducible exact ih0 _ _ _)
      | (with_reducible exact LeO.refl _)
      | (with_reducible exact LeO.none _)
      | (with_reducible refine LeO.ite ?_ ?_)
      | (with_reducible refine LeO.bind ?_ (fun _ => ?_))
      | exact ih0 _ _ _
      | exact LeO.none _
      | refine LeO.ite ?_ ?_
      | refine LeO.bind ?_ (fun _ => ?_)
theorem laws_heldIntS.mono : ∀ a0 a1 k, LeO (laws_heldIntS.f k a0 a1) (laws_heldIntS.f (k + 1) a0 a1) := by
  intro a0 a1 k
  have ih0 := laws_heldIntS.mono_l k
  unfold laws_heldIntS.f
  repeat' first
      | (with_reducible exact ih0 _ _ _)
      | (with_reducible exact LeO.refl _)
      | (with_reducible exact LeO.none _)
      | (with_reducible refine LeO.ite ?_ ?_)
      | (with_reducible refine LeO.bind ?_ (fun _ => ?_))
      | exact ih0 _ _ _
      | exact LeO.none _
      | refine LeO.ite ?_ ?_
      | refine LeO.bind ?_ (fun _ => ?_)
set_option maxHeartbeats 8000000 in
set_option maxRecDepth 100000 in
theorem laws_heldIntS.calls (k : Nat) (A0 : Option Addr) (c0 : Nat) (l0 : List Int) (a1 : Int) (r : Int) (w : World) (hr0 : Kd.C (Kd.int .i64) w A0 l0.length l0) (hc0 : l0.length ≤ c0) (h : laws_heldIntS.f k l0 a1 = some r) :
    Calls Tryd.prog 20 #[.slice A0 l0.length c0, .int .i64 a1] w fun e w' => e = .returned (.int .i64 r) ∧ Drawn0 w w' := by
  have HR0 := Aside0.mk hr0
  have HC0 := Aside0.mk hc0
  clear hr0 hc0
  have H : (laws_heldIntS.l0 k l0 a1 0) = some r := h
  clear h
  have H' := Aside0.mk H
  clear H
  go_enter Tryd.func20, Tryd.ntmps20
  go_wp2
  go_loopg [1, 5] k (fun kq v1 v5 w' => ∃ (x1_1 : Int) (x5_1 : Int), v1 = .int .i64 x1_1 ∧ v5 = .int .i64 x5_1 ∧ Aside0 (laws_heldIntS.l0 kq l0 x1_1 x5_1 = some r) ∧ Aside0 (kq ≤ k) ∧ Drawn0 w w')
  case atStart => exact ⟨(a1), (0), (by first | rfl | (simp; done) | (simp [*]; done)), (by first | rfl | (simp; done) | (simp [*]; done)), H', ⟨Nat.le_refl _⟩, by repeat (first | exact Drawn0.refl _ | apply Drawn0.step)⟩
  case round =>
    clear H'
    try clear c2
    try clear p2
    obtain ⟨x1_1, x5_1, rfl, rfl, HA, HK1, ⟨m1, rfl⟩⟩ := hrel
    cases gk with
    | zero => exact absurd HA.out (by simp [laws_heldIntS.l0])
    | succ k1 =>
      have H := HA.out
      clear HA
      simp only [laws_heldIntS.l0] at H
      by_cases c3 : x5_1 < (l0.length : Int)
      · rw [if_pos c3] at H
        have c3b0 : decide (x5_1 < (l0.length : Int)) = true := decide_eq_true c3
        clear c3
        by_cases c4 : 0 ≤ x5_1
        · rw [if_pos c4] at H
          have c4b0 : decide (0 ≤ x5_1) = true := decide_eq_true c4
          clear c4
          by_cases c5 : (rd l0 x5_1) = x1_1
          · rw [if_pos c5] at H
            have c5b0 : ((rd l0 x5_1) == x1_1) = true := beq_iff_eq.mpr c5
            have c5b1 : ((rd l0 x5_1) != x1_1) = false := bne_eq_false_iff_eq.mpr c5
            clear c5
            have H' := Aside0.mk H
            clear H
            have p210 : 0 ≤ (x5_1 : Int) := of_decide_eq_true (by first | (with_reducible assumption) | assumption)
            have q210 : x5_1 < (l0.length : Int) := of_decide_eq_true (by first | (with_reducible assumption) | assumption)
            obtain ⟨ad210, e210, hx210_0⟩ := Kd.at_int HR0.out x5_1 p210 q210
            cases e210
            replace p210 := eq_true p210
            replace q210 := eq_true q210
            go_wp2
            go_roundg k1
            case measure => have := HK1.out; omega
            case rel => exact ⟨(wrap64 (x1_1 + 1)), (wrap64 (x5_1 + 1)), (by first | rfl | (simp; done) | (simp [*]; done)), (by first | rfl | (simp; done) | (simp [*]; done)), H', ⟨by have := HK1.out; omega⟩, by repeat (first | exact Drawn0.refl _ | apply Drawn0.step)⟩
          · rw [if_neg c5] at H
            have c5b0 : ((rd l0 x5_1) == x1_1) = false := beq_eq_false_iff_ne.mpr c5
            have c5b1 : ((rd l0 x5_1) != x1_1) = true := bne_iff_ne.mpr c5
            obtain rfl := Option.some.inj H
            have p210 : 0 ≤ (x5_1 : Int) := of_decide_eq_true (by first | (with_reducible assumption) | assumption)
            have q210 : x5_1 < (l0.length : Int) := of_decide_eq_true (by first | (with_reducible assumption) | assumption)
            obtain ⟨ad210, e210, hx210_0⟩ := Kd.at_int HR0.out x5_1 p210 q210
            cases e210
            replace p210 := eq_true p210
            replace q210 := eq_true q210
            go_wp2
            go_ret
            exact ⟨by first | rfl | (simp; done) | (simp [*]; done), by repeat (first | exact Drawn0.refl _ | apply Drawn0.step)⟩
        · rw [if_neg c4] at H
          exact absurd H (by simp)
      · rw [if_neg c3] at H
        have c3b0 : decide (x5_1 < (l0.length : Int)) = false := decide_eq_false c3
        clear c3
        obtain rfl := Option.some.inj H
        go_wp2
        go_ret
        exact ⟨by first | rfl | (simp; done) | (simp [*]; done), by repeat (first | exact Drawn0.refl _ | apply Drawn0.step)⟩

/-! ### laws_heldIntSS: function 33 -/
def laws_heldIntSS.l0 : Nat → List (List Int) → Int → Int → Option (Int)
  | 0, _, _, _ => none
  | k + 1, x0, x1, x5 => if x5 < (x0.length : Int) then (if 0 ≤ x5 then ((laws_heldIntS.f k (rd_L1 x0 x5) x1).bind fun t212 => (if t212 < 0 then (some (-1)) else (laws_heldIntSS.l0 k x0 t212 (wrap64 (x5 + 1))))) else (none)) else (some x1)
def laws_heldIntSS.f (k : Nat) (l0 : List (List Int)) (a1 : Int) : Option (Int) := laws_heldIntSS.l0 k l0 a1 0
theorem laws_heldIntSS.mono_l : ∀ k, (∀ y0 y1 y2, LeO (laws_heldIntSS.l0 k y0 y1 y2) (laws_heldIntSS.l0 (k + 1) y0 y1 y2))
  | 0 => fun _ _ _ r h => by simp [laws_heldIntSS.l0] at h
  | k + 1 => by
    have ih0 := laws_heldIntSS.mono_l k
    · intro y0 y1 y2
      unfold laws_heldIntSS.l0
      repeat' first
      | (with_reducible exact ih0 _ _ _)
      | (with_reducible exact laws_heldIntS.mono _ _ _)
      | (with_reducible exact LeO.refl _)
      | (with_reducible exact LeO.none _)
      | (with_reducible refine LeO.ite ?_ ?_)
      | (with_reducible refine LeO.bind ?_ (fun _ => ?_))
      | exact ih0 _ _ _
      | exact laws_heldIntS.mono _ _ _
      | exact LeO.none _
      | refine LeO.ite ?_ ?_
      | refine LeO.bind ?_ (fun _ => ?_)
theorem laws_heldIntSS.mono : ∀ a0 a1 k, LeO (laws_heldIntSS.f k a0 a1) (laws_heldIntSS.f (k + 1) a0 a1) := by
  intro a0 a1 k
  have ih0 := laws_heldIntSS.mono_l k
  unfold laws_heldIntSS.f
  repeat' first
      | (with_reducible exact ih0 _ _ _)
      | (with_reducible exact laws_heldIntS.mono _ _ _)
      | (with_reducible exact LeO.refl _)
      | (with_reducible exact LeO.none _)
      | (with_reducible refine LeO.ite ?_ ?_)
      | (with_reducible refine LeO.bind ?_ (fun _ => ?_))
      | exact ih0 _ _ _
      | exact laws_heldIntS.mono _ _ _
      | exact LeO.none _
      | refine LeO.ite ?_ ?_
      | refine LeO.bind ?_ (fun _ => ?_)
set_option maxHeartbeats 8000000 in
set_option maxRecDepth 100000 in
theorem laws_heldIntSS.calls (k : Nat) (A0 : Option Addr) (c0 : Nat) (l0 : List (List Int)) (a1 : Int) (r : Int) (w : World) (hr0 : Kd.C (Kd.slice 3 (Kd.int .i64)) w A0 l0.length l0) (hc0 : l0.length ≤ c0) (h : laws_heldIntSS.f k l0 a1 = some r) :
    Calls Tryd.prog 33 #[.slice A0 l0.length c0, .int .i64 a1] w fun e w' => e = .returned (.int .i64 r) ∧ Drawn0 w w' := by
  have HR0 := Aside0.mk hr0
  have HC0 := Aside0.mk hc0
  clear hr0 hc0
  have H : (laws_heldIntSS.l0 k l0 a1 0) = some r := h
  clear h
  have H' := Aside0.mk H
  clear H
  go_enter Tryd.func33, Tryd.ntmps33
  go_wp2
  go_loopg [1, 5] k (fun kq v1 v5 w' => ∃ (x1_1 : Int) (x5_1 : Int), v1 = .int .i64 x1_1 ∧ v5 = .int .i64 x5_1 ∧ Aside0 (laws_heldIntSS.l0 kq l0 x1_1 x5_1 = some r) ∧ Aside0 (kq ≤ k) ∧ Drawn0 w w')
  case atStart => exact ⟨(a1), (0), (by first | rfl | (simp; done) | (simp [*]; done)), (by first | rfl | (simp; done) | (simp [*]; done)), H', ⟨Nat.le_refl _⟩, by repeat (first | exact Drawn0.refl _ | apply Drawn0.step)⟩
  case round =>
    clear H'
    try clear p2
    obtain ⟨x1_1, x5_1, rfl, rfl, HA, HK1, ⟨m1, rfl⟩⟩ := hrel
    cases gk with
    | zero => exact absurd HA.out (by simp [laws_heldIntSS.l0])
    | succ k1 =>
      have H := HA.out
      clear HA
      simp only [laws_heldIntSS.l0] at H
      by_cases c3 : x5_1 < (l0.length : Int)
      · rw [if_pos c3] at H
        have c3b0 : decide (x5_1 < (l0.length : Int)) = true := decide_eq_true c3
        clear c3
        by_cases c4 : 0 ≤ x5_1
        · rw [if_pos c4] at H
          have c4b0 : decide (0 ≤ x5_1) = true := decide_eq_true c4
          clear c4
          replace H := Option.bind_eq_some_iff.mp H
          obtain ⟨t212, A50, H⟩ := H
          replace H : (if t212 < 0 then (some (-1)) else (laws_heldIntSS.l0 k1 l0 t212 (wrap64 (x5_1 + 1)))) = some r := H
          have A5 := Aside0.mk A50
          clear A50
          by_cases c6 : t212 < 0
          · rw [if_pos c6] at H
            have c6b0 : decide (t212 < 0) = true := decide_eq_true c6
            clear c6
            obtain rfl := Option.some.inj H
            have p211 : 0 ≤ (x5_1 : Int) := of_decide_eq_true (by first | (with_reducible assumption) | assumption)
            have q211 : x5_1 < (l0.length : Int) := of_decide_eq_true (by first | (with_reducible assumption) | assumption)
            obtain ⟨ad211, A211_0, c211_0, e211, hx211_0, hl211_0, hi211_0⟩ := at_L1 HR0.out x5_1 p211 q211
            cases e211
            have HR211_0 := Aside0.mk hi211_0
            have HC211_0 := Aside0.mk hl211_0
            clear hi211_0 hl211_0
            replace p211 := eq_true p211
            replace q211 := eq_true q211
            go_wp2_with (first | ((with_reducible refine gate_callee (f := 20) rfl ?_); refine goesL_ (some 17) rfl rfl Tryd.func20 (by kernel_rfl) rfl #[.slice A211_0 (rd_L1 l0 x5_1).length c211_0, .int .i64 x1_1] rfl (by (try simp only [List.map_toArray, List.map_cons, List.map_nil]); first | done | rfl | (simp only [List.length_drop, List.length_take]; rfl)) ?_; (with_reducible refine (laws_heldIntS.calls k1 _ _ (rd_L1 l0 x5_1) x1_1 t212 _ ?side1 ?side2 A5.out).mono ?_); (case side1 => repeat (first | exact HR211_0.out | (with_reducible refine Kd.C_alloc ?_ _) | (with_reducible refine Kd.C_drewN ?_ _) | (with_reducible refine Kd.C_drew ?_))); (case side2 => exact HC211_0.out); rintro e w' ⟨rfl, ⟨nd, rfl⟩⟩; refine ⟨_, rfl, ?_⟩))
            go_ret
            exact ⟨by first | rfl | (simp; done) | (simp [*]; done), by repeat (first | exact Drawn0.refl _ | apply Drawn0.step)⟩
          · rw [if_neg c6] at H
            have c6b0 : decide (t212 < 0) = false := decide_eq_false c6
            clear c6
            have H' := Aside0.mk H
            clear H
            have p211 : 0 ≤ (x5_1 : Int) := of_decide_eq_true (by first | (with_reducible assumption) | assumption)
            have q211 : x5_1 < (l0.length : Int) := of_decide_eq_true (by first | (with_reducible assumption) | assumption)
            obtain ⟨ad211, A211_0, c211_0, e211, hx211_0, hl211_0, hi211_0⟩ := at_L1 HR0.out x5_1 p211 q211
            cases e211
            have HR211_0 := Aside0.mk hi211_0
            have HC211_0 := Aside0.mk hl211_0
            clear hi211_0 hl211_0
            replace p211 := eq_true p211
            replace q211 := eq_true q211
            go_wp2_with (first | ((with_reducible refine gate_callee (f := 20) rfl ?_); refine goesL_ (some 17) rfl rfl Tryd.func20 (by kernel_rfl) rfl #[.slice A211_0 (rd_L1 l0 x5_1).length c211_0, .int .i64 x1_1] rfl (by (try simp only [List.map_toArray, List.map_cons, List.map_nil]); first | done | rfl | (simp only [List.length_drop, List.length_take]; rfl)) ?_; (with_reducible refine (laws_heldIntS.calls k1 _ _ (rd_L1 l0 x5_1) x1_1 t212 _ ?side1 ?side2 A5.out).mono ?_); (case side1 => repeat (first | exact HR211_0.out | (with_reducible refine Kd.C_alloc ?_ _) | (with_reducible refine Kd.C_drewN ?_ _) | (with_reducible refine Kd.C_drew ?_))); (case side2 => exact HC211_0.out); rintro e w' ⟨rfl, ⟨nd, rfl⟩⟩; refine ⟨_, rfl, ?_⟩))
            go_roundg k1
            case measure => have := HK1.out; omega
            case rel => exact ⟨(t212), (wrap64 (x5_1 + 1)), (by first | rfl | (simp; done) | (simp [*]; done)), (by first | rfl | (simp; done) | (simp [*]; done)), H', ⟨by have := HK1.out; omega⟩, by repeat (first | exact Drawn0.refl _ | apply Drawn0.step)⟩
        · rw [if_neg c4] at H
          exact absurd H (by simp)
      · rw [if_neg c3] at H
        have c3b0 : decide (x5_1 < (l0.length : Int)) = false := decide_eq_false c3
        clear c3
        obtain rfl := Option.some.inj H
        go_wp2
        go_ret
        exact ⟨by first | rfl | (simp; done) | (simp [*]; done), by repeat (first | exact Drawn0.refl _ | apply Drawn0.step)⟩

/-! ### laws_FnExactCycleOfRing: function 10, by hand -/
/-- Its rings lie apart. -/
theorem impl_CycleOfRing.callsR (k : Nat) (A0 : Option Addr) (c0 : Nat) (l0 : List Int) (r1 : List (List Int)) (r2 : Bool) (w : World) (hr0 : Kd.C (Kd.int .i64) w A0 l0.length l0) (hc0 : l0.length ≤ c0) (hG : Gl w) (h : impl_CycleOfRing.f k l0 = some (r1, r2)) :
    Calls Tryd.prog 30 #[.slice A0 l0.length c0] w fun e w' => ∃ v0_ : Value, e = .returned (.tuple #[v0_, .bool r2]) ∧ Rws w' w.heap.size (fun k => w.heap.size ≤ k) v0_ r1 ∧ Below w.heap.size w w' := by
  have HR := Aside0.mk hr0
  have HC := Aside0.mk hc0
  have HG := Aside0.mk hG
  unfold impl_CycleOfRing.f at h
  obtain ⟨t, hA, H⟩ := Option.bind_eq_some_iff.mp h
  have HA := Aside0.mk hA
  clear hr0 hc0 hG h hA
  cases t with
  | false =>
    rw [if_neg (by decide)] at H
    cases H
    go_enter Tryd.func30, Tryd.ntmps30
    go_wp2_with (go_at_call 34; refine (impl_IsRing.calls A0 c0 l0 false _ HR.out HC.out HA.out).mono ?_; rintro e w1 ⟨rfl, hb⟩; have HB1 := Aside0.mk hb; clear hb)
    go_ret2
    exact ⟨_, rfl, Rws.nil _ _ _, HB1.out⟩
  | true =>
    rw [if_pos rfl] at H
    obtain ⟨⟨z, m⟩, hL, H⟩ := Option.bind_eq_some_iff.mp H
    dsimp only at H
    by_cases c1 : 0 ≤ m
    · rw [if_pos c1] at H
      by_cases c2 : m ≤ (z.length : Int)
      · rw [if_pos c2] at H
        cases H
        obtain ⟨m, rfl⟩ := Int.eq_ofNat_of_zero_le c1
        have HL := Aside0.mk hL
        clear hL c1
        obtain ⟨i0, hi0, _, hsz, _⟩ := info_parts info22
        have HCUT := Aside0.mk (fun A c => cut_from (P := Tryd.prog) 37 22 .i64 Tryd.underlying37 hi0 1 hsz A z.length c (m : Int) (by omega) c2)
        have hm : m ≤ z.length := by omega
        have HM := Aside0.mk hm
        clear hm c2 hi0 hsz
        go_enter Tryd.func30, Tryd.ntmps30
        go_wp2_with (first | (go_at_call 34; refine (impl_IsRing.calls A0 c0 l0 true _ HR.out HC.out HA.out).mono ?_; rintro e w1 ⟨rfl, hb⟩; have HB1 := Aside0.mk hb; clear hb) | (go_at_call 35; refine (impl_ringCycle.calls k A0 c0 l0 z (m : Int) _ (Kd.C_below HR.out HB1.out) HC.out (Gl.below HG.out HB1.out) HL.out).mono ?_; rintro e w2 ⟨v, rfl, ho, hb⟩; obtain ⟨A2, c2, rfl⟩ := Kd.S_slice ho; have hs := Rws.cut (Rws.of_S (Kd.S_mono (Kd.S_bound (Kd.S_lower ho HB1.out.size)) (fun k hk => hk.2.1))) HM.out; have HB2 := Aside0.mk (below_step HB1.out hb); have hcut := HCUT.out A2 c2; rw [Int.toNat_natCast] at hcut; generalize (if c2 = m then A2 else A2.map (·.add (m * 1))) = A3 at hs hcut; have HS := Aside0.mk hs; clear hs ho hb))
        go_ret2
        exact ⟨_, rfl, HS.out, HB2.out⟩
      · rw [if_neg c2] at H
        cases H
    · rw [if_neg c1] at H
      cases H
/-- Between the calls of a law that compares rows of rows: what the reference told stays read, what the program told lies apart. -/
structure LawSt (w : World) (n2 n3 : Nat) (A2 : Option Addr) (s1 : List (List Int)) (v4 : Value) (g : List (List Int)) (W : World) : Prop where
  below : Below w.heap.size w W
  le : n2 ≤ n3
  f2 : Kd.F (Kd.slice 3 (Kd.int .i64)) W (fun k => k < n2) A2 s1.length s1
  r4 : Rws W w.heap.size (fun k => n3 ≤ k) v4 g
theorem LawSt.go {w W W1 : World} {n2 n3 : Nat} {A2 : Option Addr} {s1 g : List (List Int)} {v4 : Value} (h : LawSt w n2 n3 A2 s1 v4 g W) (hb : Below W.heap.size W W1) : LawSt w n2 n3 A2 s1 v4 g W1 := ⟨below_step h.below hb, h.le, Kd.F_below h.f2 hb, h.r4.below hb⟩
theorem LawSt.drawn {w W W1 : World} {n2 n3 : Nat} {A2 : Option Addr} {s1 g : List (List Int)} {v4 : Value} (h : LawSt w n2 n3 A2 s1 v4 g W) (hb : Drawn0 W W1) : LawSt w n2 n3 A2 s1 v4 g W1 := by
  obtain ⟨q, rfl⟩ := hb
  exact h.go (pw_below_drewN (Below.refl _ _) q)
theorem LawSt.slR {w : World} {base : Nat} {ok : Nat → Prop} {v : Value} {xs : List (List Int)} (h : Kd.R (Kd.slice 3 (Kd.int .i64)) 22 w base ok v xs) : ∃ A c, v = .slice A xs.length c ∧ Kd.F (Kd.slice 3 (Kd.int .i64)) w (fun k => k < w.heap.size) A xs.length xs ∧ xs.length ≤ c := by
  obtain ⟨A, c, rfl⟩ := Kd.R_slice h
  exact ⟨A, c, rfl, Kd.F_mono (Kd.R_F (Kd.R_bound h)) (fun k hk => hk.2.2.1), (Kd.R_reads' h).2.1⟩
theorem LawSt.slS {w : World} {base : Nat} {ok : Nat → Prop} {v : Value} {xs : List (List Int)} (h : Kd.S (Kd.slice 3 (Kd.int .i64)) 22 w base ok v xs) : ∃ A c, v = .slice A xs.length c ∧ Kd.F (Kd.slice 3 (Kd.int .i64)) w (fun k => k < w.heap.size) A xs.length xs ∧ xs.length ≤ c := LawSt.slR (Kd.S_R h)
theorem LawSt.slQ {w : World} {base : Nat} {ok : Nat → Prop} {v : Value} {xs : List (List Int)} (h : Kd.Q (Kd.slice 3 (Kd.int .i64)) 22 w base ok v xs) : ∃ A c, v = .slice A xs.length c ∧ Kd.F (Kd.slice 3 (Kd.int .i64)) w (fun k => k < w.heap.size) A xs.length xs ∧ xs.length ≤ c := by
  obtain ⟨A, c, rfl, _⟩ := Kd.Q_slice h
  exact ⟨A, c, rfl, Kd.F_mono (Kd.Q_F (Kd.Q_bound h)) (fun k hk => hk.2.2.1), (Kd.Q_reads' h).2.1⟩
theorem LawSt.arg {w W : World} {base b : Nat} {v : Value} {xs : List Int} {E : Nat → Prop} (h : Kd.R (Kd.int .i64) 3 w base (fun k => True ∧ b ≤ k ∧ k < W.heap.size ∧ E k) v xs) : Kd.R (Kd.int .i64) 3 w base (fun k => b ≤ k ∧ k < W.heap.size) v xs := Kd.R_mono h (fun k hk => ⟨hk.2.1, hk.2.2.1⟩)
theorem LawSt.eq_ {k n c2 : Nat} {W : World} {base : Nat} {ok : Nat → Prop} {v : Value} {g s : List (List Int)} {A2 : Option Addr} {b : Bool} (hr : Rws W base ok v g) (hf : Kd.F (Kd.slice 3 (Kd.int .i64)) W (fun k => k < n) A2 s.length s) (hc : s.length ≤ c2) (h : laws_eqIntSS.f k g s = some b) :
    Calls Tryd.prog 31 #[v, .slice A2 s.length c2] W fun e w' => e = .returned (.bool b) ∧ Drawn0 W w' := by
  obtain ⟨A, c, rfl, hl, hC⟩ := hr.reads
  exact laws_eqIntSS.calls k A c g A2 c2 s b W hC hl (Kd.F_now hf) hc h
theorem LawSt.held_ {k : Nat} {W : World} {base : Nat} {ok : Nat → Prop} {v : Value} {g : List (List Int)} {q : Int} (hr : Rws W base ok v g) (h : laws_heldIntSS.f k g 1 = some q) :
    Calls Tryd.prog 33 #[v, .int .i64 1] W fun e w' => e = .returned (.int .i64 q) ∧ Drawn0 W w' := by
  obtain ⟨A, c, rfl, hl, hC⟩ := hr.reads
  exact laws_heldIntSS.calls k A c g 1 q W hC hl h
theorem LawSt.mark_ {w W : World} {n2 n3 k : Nat} {A2 : Option Addr} {s1 g g' : List (List Int)} {v4 : Value} {q : Int} (h : LawSt w n2 n3 A2 s1 v4 g W) (hm : laws_markIntSS.f k g 1 = some (q, g')) :
    Calls Tryd.prog 32 #[v4, .int .i64 1] W fun e w' => e = .returned (.int .i64 q) ∧ LawSt w n2 n3 A2 s1 v4 g' w' :=
  (laws_markIntSS.calls k (fun k => n3 ≤ k) v4 g 1 q g' w W h.below h.r4 hm).mono fun e w' ⟨he, hr, hb, hk⟩ => ⟨he, ⟨hb, h.le, Kd.F_kept h.f2 hk (fun k h1 h2 => by have := h.le; omega), hr⟩⟩
theorem LawSt.arg_ {w W : World} {n2 n3 k : Nat} {A2 : Option Addr} {s1 g : List (List Int)} {v4 v3 : Value} {t t' : List Int} {m : Int} (h : LawSt w n2 n3 A2 s1 v4 g W) (hr : Kd.R (Kd.int .i64) 3 W w.heap.size (fun k => n2 ≤ k ∧ k < n3) v3 t) (hm : laws_markIntS.f k t 1 = some (m, t')) :
    Calls Tryd.prog 19 #[v3, .int .i64 1] W fun e w' => e = .returned (.int .i64 m) ∧ LawSt w n2 n3 A2 s1 v4 g w' :=
  (laws_markIntS.calls k (fun k => n2 ≤ k ∧ k < n3) v3 t 1 m t' w W h.below hr hm).mono fun e w' ⟨he, _, hb, hk⟩ => ⟨he, ⟨hb, h.le, Kd.F_kept h.f2 hk (fun k h1 h2 => by omega), h.r4.kept hk (fun k h1 h2 => by omega)⟩⟩
def laws_FnExactCycleOfRing.f (k : Nat) (l0 : List Int) : Option Bool := if (l0.length : Int) > 1048576 then some true else (laws_toIntS.f k l0).bind fun t => (spec_CycleOfRing.f k t).bind fun s => (impl_CycleOfRing.f k t).bind fun g => (laws_eqIntSS.f k g.1 s.1).bind fun b1 => (laws_eqIntS.f k t t).bind fun b2 => (laws_markIntS.f k t 1).bind fun m1 => (laws_markIntSS.f k g.1 1).bind fun m => (laws_heldIntSS.f k m.2 1).bind fun q => if g.2 = s.2 then (if b1 = true then (if b2 = true then (if 0 ≤ m1.1 then (if 0 ≤ q then (if q = m.1 then some true else none) else none) else none) else none) else none) else none
set_option maxHeartbeats 8000000 in
set_option maxRecDepth 100000 in
theorem laws_FnExactCycleOfRing.calls (k : Nat) (A0 : Option Addr) (c0 : Nat) (l0 : List Int) (r : Bool) (w : World) (hr0 : Kd.C (Kd.int .i64) w A0 l0.length l0) (hc0 : l0.length ≤ c0) (hG : Gl w) (h : laws_FnExactCycleOfRing.f k l0 = some r) :
    Calls Tryd.prog 10 #[.slice A0 l0.length c0] w fun e w' => e = .returned (.bool r) ∧ Below w.heap.size w w' := by
  have HR := Aside0.mk hr0
  have HC := Aside0.mk hc0
  have HG := Aside0.mk hG
  clear hG
  clear hr0 hc0
  unfold laws_FnExactCycleOfRing.f at h
  by_cases c1 : (l0.length : Int) > 1048576
  · rw [if_pos c1] at h
    cases h
    have c1b : decide (1048576 < (l0.length : Int)) = true := decide_eq_true c1
    have c1c : decide (1048576 < l0.length) = true := decide_eq_true (by omega)
    clear c1
    go_enter Tryd.func10, Tryd.ntmps10
    go_wp2
    go_ret
    exact ⟨rfl, Below.refl _ _⟩
  · rw [if_neg c1] at h
    have c1b : decide (1048576 < (l0.length : Int)) = false := decide_eq_false c1
    have c1c : decide (1048576 < l0.length) = false := decide_eq_false (by omega)
    clear c1
    have hx := Option.bind_eq_some_iff.mp h
    clear h
    obtain ⟨t, h1, h⟩ := hx
    have hx := Option.bind_eq_some_iff.mp h
    clear h
    obtain ⟨⟨s1, s2⟩, h2, h⟩ := hx
    have hx := Option.bind_eq_some_iff.mp h
    clear h
    obtain ⟨⟨g1, g2⟩, h3, h⟩ := hx
    have hx := Option.bind_eq_some_iff.mp h
    clear h
    obtain ⟨b1, h4, h⟩ := hx
    have hx := Option.bind_eq_some_iff.mp h
    clear h
    obtain ⟨b2, h5, h⟩ := hx
    have hx := Option.bind_eq_some_iff.mp h
    clear h
    obtain ⟨⟨m1, m1'⟩, h6, h⟩ := hx
    have hx := Option.bind_eq_some_iff.mp h
    clear h
    obtain ⟨⟨m, g'⟩, h7, h⟩ := hx
    have hx := Option.bind_eq_some_iff.mp h
    clear h
    obtain ⟨q, h8, h⟩ := hx
    dsimp only at h h1 h2 h3 h4 h5 h6 h7 h8
    by_cases d1 : g2 = s2
    case neg => rw [if_neg d1] at h; cases h
    by_cases d2 : b1 = true
    case neg => rw [if_pos d1, if_neg d2] at h; cases h
    by_cases d3 : b2 = true
    case neg => rw [if_pos d1, if_pos d2, if_neg d3] at h; cases h
    by_cases d4 : 0 ≤ m1
    case neg => rw [if_pos d1, if_pos d2, if_pos d3, if_neg d4] at h; cases h
    by_cases d5 : 0 ≤ q
    case neg => rw [if_pos d1, if_pos d2, if_pos d3, if_pos d4, if_neg d5] at h; cases h
    by_cases d6 : q = m
    case neg => rw [if_pos d1, if_pos d2, if_pos d3, if_pos d4, if_pos d5, if_neg d6] at h; cases h
    rw [if_pos d1, if_pos d2, if_pos d3, if_pos d4, if_pos d5, if_pos d6] at h
    cases h
    subst d1 d2 d3 d6
    have e1 : (g2 != g2) = false := by cases g2 <;> rfl
    have e2 : decide (m1 < 0) = false := decide_eq_false (by omega)
    have e3 : decide (q < 0) = false := decide_eq_false (by omega)
    have e4 : (q != q) = false := by simp
    have H1 := Aside0.mk h1
    have H2 := Aside0.mk h2
    have H3 := Aside0.mk h3
    have H4 := Aside0.mk h4
    have H5 := Aside0.mk h5
    have H6 := Aside0.mk h6
    have H7 := Aside0.mk h7
    have H8 := Aside0.mk h8
    clear h1 h2 h3 h4 h5 h6 h7 h8 d4 d5
    have T1 : Aside0 True := ⟨trivial⟩
    have T2 : Aside0 True := ⟨trivial⟩
    have T3 : Aside0 True := ⟨trivial⟩
    have T4 : Aside0 True := ⟨trivial⟩
    have T5 : Aside0 True := ⟨trivial⟩
    have T6 : Aside0 True := ⟨trivial⟩
    have T7 : Aside0 True := ⟨trivial⟩
    have T8 : Aside0 True := ⟨trivial⟩
    have T9 : Aside0 True := ⟨trivial⟩
    have T10 : Aside0 True := ⟨trivial⟩
    have T11 : Aside0 True := ⟨trivial⟩
    have T12 : Aside0 True := ⟨trivial⟩
    have T13 : Aside0 True := ⟨trivial⟩
    have T14 : Aside0 True := ⟨trivial⟩
    have T15 : Aside0 True := ⟨trivial⟩
    go_enter Tryd.func10, Tryd.ntmps10
    go_wp2_with (first | (clear T1; go_at_call 16; refine (laws_toIntS.calls k A0 c0 l0 t _ HR.out HC.out H1.out).mono ?_; rintro e w1 ⟨v1, rfl, hr1, hb1⟩; obtain ⟨A1, c1, rfl⟩ := Kd.R_slice hr1; have HB := Aside0.mk hb1; have HR1 := Aside0.mk hr1; clear hb1 hr1) | (clear T2; go_at_call 29; refine (spec_CycleOfRing.calls k A1 c1 t s1 g2 _ (Kd.R_reads' HR1.out).2.2 (Kd.R_reads' HR1.out).2.1 H2.out).mono ?_; rintro e w2 ⟨v2, rfl, hr2, hb2⟩; obtain ⟨A2, c2, rfl, f2, l2⟩ := (by first | exact LawSt.slS hr2 | exact LawSt.slR hr2 | exact LawSt.slQ hr2 : ∃ A c, v2 = .slice A s1.length c ∧ Kd.F (Kd.slice 3 (Kd.int .i64)) w2 (fun k => k < w2.heap.size) A s1.length s1 ∧ s1.length ≤ c); have HF := Aside0.mk f2; have HL := Aside0.mk l2; have nB := Aside0.mk (below_step HB.out hb2); clear HB HR1; have HB := nB; clear nB hr2 hb2 f2 l2) | (clear T3; go_at_call 16; refine (laws_toIntS.calls k A0 c0 l0 t _ (Kd.C_below HR.out HB.out) HC.out H1.out).mono ?_; rintro e w3 ⟨v3, rfl, hr3, hb3⟩; obtain ⟨A3, c3, rfl⟩ := Kd.R_slice hr3; have nF := Aside0.mk (Kd.F_below HF.out hb3); have HR3 := Aside0.mk (LawSt.arg (Kd.R_bound hr3)); have HN := Aside0.mk hb3.size; have HW2 := Aside0.mk HB.out.size; have nB := Aside0.mk (below_step HB.out hb3); clear HB HF; have HB := nB; have HF := nF; clear nB nF hr3 hb3) | (clear T4; go_at_call 30; refine (impl_CycleOfRing.callsR k A3 c3 t g1 g2 _ (Kd.R_reads' HR3.out).2.2 (Kd.R_reads' HR3.out).2.1 (Gl.below HG.out HB.out) H3.out).mono ?_; rintro e w4 ⟨v4, rfl, hr4, hb4⟩; obtain ⟨A4, c4, rfl⟩ := hr4.slice; have HS := Aside0.mk (LawSt.mk (below_step HB.out hb4) HN.out (Kd.F_below HF.out hb4) (hr4.lower HB.out.size)); have nR := Aside0.mk (Kd.R_lower (Kd.R_below HR3.out hb4) HW2.out); clear HF HR3 HW2; have HR3 := nR; clear HB nR hr4 hb4) | (clear T5; go_at_call 31; refine (LawSt.eq_ HS.out.r4 HS.out.f2 HL.out H4.out).mono ?_; rintro e w5 ⟨rfl, hd⟩; have nR := Aside0.mk (by obtain ⟨q_, rfl⟩ := hd; exact Kd.R_drewN HR3.out q_ : Kd.R (Kd.int .i64) 3 w5 w.heap.size _ (.slice A3 t.length c3) t); clear HR3; have HR3 := nR; clear nR; have nS := Aside0.mk (HS.out.drawn hd); clear HS; have HS := nS; clear nS hd) | (clear T6; go_at_call 16; refine (laws_toIntS.calls k A0 c0 l0 t _ (Kd.C_below HR.out HS.out.below) HC.out H1.out).mono ?_; rintro e w6 ⟨v6, rfl, hr6, hb6⟩; obtain ⟨A6, c6, rfl⟩ := Kd.R_slice hr6; have HR6 := Aside0.mk hr6; have nR := Aside0.mk (Kd.R_below HR3.out hb6); have nS := Aside0.mk (HS.out.go hb6); clear HS HR3; have HS := nS; have HR3 := nR; clear nS nR hr6 hb6) | (clear T7; go_at_call 17; refine (laws_eqIntS.calls k A3 c3 t A6 c6 t true _ (Kd.R_reads' HR3.out).2.2 (Kd.R_reads' HR3.out).2.1 (Kd.R_reads' HR6.out).2.2 (Kd.R_reads' HR6.out).2.1 H5.out).mono ?_; rintro e w7 ⟨rfl, hd⟩; have nR := Aside0.mk (by obtain ⟨q_, rfl⟩ := hd; exact Kd.R_drewN HR3.out q_ : Kd.R (Kd.int .i64) 3 w7 w.heap.size _ (.slice A3 t.length c3) t); clear HR3 HR6; have HR3 := nR; clear nR; have nS := Aside0.mk (HS.out.drawn hd); clear HS; have HS := nS; clear nS hd) | (clear T8; go_at_call 19; refine (LawSt.arg_ HS.out HR3.out H6.out).mono ?_; rintro e w8 ⟨rfl, hs8⟩; clear HS HR3; have HS := Aside0.mk hs8; clear hs8) | (clear T9; go_at_call 31; refine (LawSt.eq_ HS.out.r4 HS.out.f2 HL.out H4.out).mono ?_; rintro e w9 ⟨rfl, hd⟩; have nS := Aside0.mk (HS.out.drawn hd); clear HS; have HS := nS; clear nS hd) | (clear T10; go_at_call 32; refine (LawSt.mark_ HS.out H7.out).mono ?_; rintro e w10 ⟨rfl, hs10⟩; clear HS; have HS := Aside0.mk hs10; clear hs10) | (clear T11; go_at_call 33; refine (LawSt.held_ HS.out.r4 H8.out).mono ?_; rintro e w11 ⟨rfl, hd⟩; have nS := Aside0.mk (HS.out.drawn hd); clear HS; have HS := nS; clear nS hd) | (clear T12; go_at_call 16; refine (laws_toIntS.calls k A0 c0 l0 t _ (Kd.C_below HR.out HS.out.below) HC.out H1.out).mono ?_; rintro e w12 ⟨v12, rfl, hr12, hb12⟩; obtain ⟨A12, c12, rfl⟩ := Kd.R_slice hr12; have HR12 := Aside0.mk hr12; have nS := Aside0.mk (HS.out.go hb12); clear HS; have HS := nS; clear nS hr12 hb12) | (clear T13; go_at_call 30; refine (impl_CycleOfRing.callsR k A12 c12 t g1 g2 _ (Kd.R_reads' HR12.out).2.2 (Kd.R_reads' HR12.out).2.1 (Gl.below HG.out HS.out.below) H3.out).mono ?_; rintro e w13 ⟨v13, rfl, hr13, hb13⟩; obtain ⟨A13, c13, rfl⟩ := hr13.slice; have HR13 := Aside0.mk hr13; have nS := Aside0.mk (HS.out.go hb13); clear HS HR12; have HS := nS; clear nS hr13 hb13) | (clear T14; go_at_call 31; refine (LawSt.eq_ HR13.out HS.out.f2 HL.out H4.out).mono ?_; rintro e w14 ⟨rfl, hd⟩; clear HR13; have nS := Aside0.mk (HS.out.drawn hd); clear HS; have HS := nS; clear nS hd) | (clear T15; go_at_call 33; refine (LawSt.held_ HS.out.r4 H8.out).mono ?_; rintro e w15 ⟨rfl, hd⟩; have nS := Aside0.mk (HS.out.drawn hd); clear HS; have HS := nS; clear nS hd))
    go_ret
    exact ⟨rfl, HS.out.below⟩


/-- THE ONE PURE STATEMENT of laws_FnExactCycleOfRing: yours. -/
def laws_FnExactCycleOfRing.Pure : Prop := ∀ (l0 : List Int), l0.length ≤ maxLen → l0.length * 8 ≤ 140737488351232 → (∀ x ∈ l0, (Lit.int .i64 x).wf = true) → ∃ k, laws_FnExactCycleOfRing.f k l0 = some true
theorem laws_FnExactCycleOfRing.walk (P : laws_FnExactCycleOfRing.Pure) (a0 : Option Addr) (len0 cap0 : Nat) (z0 : List Int) (w : World) (w0 : (a0 = none ∧ len0 = 0 ∧ cap0 = 0 ∧ z0 = []) ∨ ∃ x, a0 = some x ∧ len0 ≤ cap0 ∧ cap0 ≤ maxLen ∧ z0.length = cap0 ∧ (∀ i, i < z0.length → w.cell? (x.add i) = some (.int .i64 (z0.getD i 0))) ∧ ∀ n ∈ z0, (Lit.int .i64 n).wf = true) (y0 : len0 * 8 ≤ 140737488351232) (hG : Gl w) :
    Calls Tryd.prog 10 #[.slice a0 len0 cap0] w fun e w' => e = .returned (.bool true) ∧ Below w.heap.size w w' := by
  obtain ⟨l0, rfl, hr0, hm0, hw0, hc0⟩ := ReadsInt.ofRowC w0
  obtain ⟨k, h⟩ := P l0 hm0 y0 hw0
  refine (laws_FnExactCycleOfRing.calls k _ _ l0 true w (Kd.C_of_reads (d := (0 : Int)) (h1 := fun _ => rfl) hr0) hc0 hG h).mono ?_
  rintro e w' ⟨rfl, hd⟩
  exact ⟨rfl, hd⟩

end Go.Proofs.YtffhhhkdnkdlgaaDoor.PFnExactCycleOfRing
