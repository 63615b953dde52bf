-- Written by a program of this session (wip/tool/myprint.py) over the translation. Not trusted: Lean checks it.
import Derived.Test.YteneeeepocefaaaDoorPFnExactCountCyclingx0
import Derived.Test.YteneeeepocefaaaDoorPFnExactCountCyclingx2
namespace Go.Proofs.YteneeeepocefaaaDoor.PFnExactCountCycling
open Go.RowKit Go.Proofs.YteneeeepocefaaaDoorW.PrintWords Go.Proofs.YteneeeepocefaaaDoorW.PrintLast Go.Proofs.YteneeeepocefaaaDoorW.PrintMore
attribute [local go_sem] max2_int min2_int max_two min_two max_three min_three max_four min_four   -- for this text's walks alone
set_option linter.unusedVariables false
set_option linter.unusedSimpArgs false

/-! ### impl_joined: function 38 -/
def impl_joined.l0 : Nat → ByteArray → List ByteArray → List Int → Int → Int → Option (ByteArray)
  | 0, _, _, _, _, _ => none
  | k + 1, x1, x5, x9, x10, x11 => if x11 < x10 then (if 0 ≤ x11 then (if x11 < (x9.length : Int) then ((strconv_Itoa.f (rd x9 x11)).bind fun t175 => (if x5.length < 8796093022208 then (impl_joined.l0 k x1 (x5 ++ [t175]) x9 x10 (wrap64 (x11 + 1))) else (none))) else (none)) else (none)) else ((strings_Join.f x5 x1).bind fun t179 => (some t179))
def impl_joined.f (k : Nat) (l0 : List Int) (a1 : ByteArray) : Option (ByteArray) := impl_joined.l0 k a1 (([] : List ByteArray)) l0 (l0.length : Int) 0
theorem impl_joined.mono_l : ∀ k, (∀ y0 y1 y2 y3 y4, LeO (impl_joined.l0 k y0 y1 y2 y3 y4) (impl_joined.l0 (k + 1) y0 y1 y2 y3 y4))
  | 0 => fun _ _ _ _ _ r h => by simp [impl_joined.l0] at h
  | k + 1 => by
    have ih0 := impl_joined.mono_l k
    · intro y0 y1 y2 y3 y4
      unfold impl_joined.l0
      repeat' first
      | (with_reducible exact ih0 _ _ _ _ _)
      | (with_reducible exact LeO.refl _)
      | (with_reducible exact LeO.none _)
      | (with_reducible refine LeO.ite ?_ ?_)
      | (with_reducible refine LeO.bind ?_ (fun _ => ?_))
      | exact ih0 _ _ _ _ _
      | exact LeO.none _
      | refine LeO.ite ?_ ?_
      | refine LeO.bind ?_ (fun _ => ?_)
theorem impl_joined.mono : ∀ a0 a1 k, LeO (impl_joined.f k a0 a1) (impl_joined.f (k + 1) a0 a1) := by
  intro a0 a1 k
  have ih0 := impl_joined.mono_l k
  unfold impl_joined.f
  repeat' first
      | (with_reducible exact ih0 _ _ _ _ _)
      | (with_reducible exact LeO.refl _)
      | (with_reducible exact LeO.none _)
      | (with_reducible refine LeO.ite ?_ ?_)
      | (with_reducible refine LeO.bind ?_ (fun _ => ?_))
      | exact ih0 _ _ _ _ _
      | exact LeO.none _
      | refine LeO.ite ?_ ?_
      | refine LeO.bind ?_ (fun _ => ?_)
set_option maxHeartbeats 8000000 in
set_option maxRecDepth 100000 in
theorem impl_joined.calls (k : Nat) (A0 : Option Addr) (c0 : Nat) (l0 : List Int) (a1 : ByteArray) (r : ByteArray) (w : World) (hr0 : Kd.C (Kd.int .i64) w A0 l0.length l0) (hc0 : l0.length ≤ c0) (hG : Gl w) (h : impl_joined.f k l0 a1 = some r) :
    Calls Tryd.prog 38 #[.slice A0 l0.length c0, .string a1] w fun e w' => e = .returned (.string r) ∧ Below w.heap.size w w' := by
  have HR0 := Aside0.mk hr0
  have HC0 := Aside0.mk hc0
  clear hr0 hc0
  have HG := Aside0.mk hG
  clear hG
  have HB := Aside0.mk (Below.refl w.heap.size w)
  have H : (impl_joined.l0 k a1 (([] : List ByteArray)) l0 (l0.length : Int) 0) = some r := h
  clear h
  obtain ⟨y171, hy171⟩ : ∃ y_ : List ByteArray, y_ = (([] : List ByteArray)) := ⟨_, rfl⟩
  replace H : (impl_joined.l0 k a1 y171 l0 (l0.length : Int) 0) = some r := by first | (rw [hy171]; with_reducible exact H) | (have H2_ := (Option.bind_some _ _).symm.trans H; rw [hy171]; with_reducible exact H2_) | (have H2_ := (Option.bind_some _ _).symm.trans H; with_reducible exact H2_) | with_reducible exact H | (rw [hy171]; exact H) | exact H
  have Ny171 := Aside0.mk hy171
  clear hy171
  have H' := Aside0.mk H
  clear H
  go_enter Tryd.func38, Tryd.ntmps38
  go_wp2_with (first | ((with_reducible refine gate_dst (N := 8) rfl ?_); refine Kd.R_lit Kd.string _ 9 ?hg (N := 8) ?hd (xs := ([] : List ByteArray)) (inner := []) (ok := fun _ => True) (okp := fun _ => True) ?hr ?hp (fun _ hk => hk) trivial (Below.refl _ _) (Nat.le_refl _) (by simp) ?_; (case hd => rfl); (case hg => rfl); (case hr => first | (go_simp; done) | (go_simp; rfl)); (case hp => exact (Reps.none _ _)); intro v172 w3 ho4 hb hg_ hnew_; clear hg_ hnew_; (first | rw [← Ny171.out] at ho4 | (simp only [Int.reduceToNat] at ho4; rw [← Ny171.out] at ho4)); have n0_ := Aside0.mk (Kd.R_lower ho4 (below_size (by repeat (first | (with_reducible first | exact HB.out | apply below_alloc | apply pw_below_drewN | apply below_drew1) | exact HB.out)))); have n1_ := Aside0.mk (below_step (by repeat (first | (with_reducible first | exact HB.out | apply below_alloc | apply pw_below_drewN | apply below_drew1) | exact HB.out)) hb); clear HB; have HO173 := n0_; have HB := n1_; clear n0_ n1_; clear hb ho4))
  go_loopg [5, 11] k (fun kq v5 v11 w' => ∃ (x5_1 : List ByteArray) (x11_1 : Int), v11 = .int .i64 x11_1 ∧ Aside0 (impl_joined.l0 kq a1 x5_1 l0 (l0.length : Int) x11_1 = some r) ∧ Aside0 (kq ≤ k) ∧ Aside0 (Kd.R Kd.string 9 w' w.heap.size (fun _ => True) v5 x5_1) ∧ Aside0 (Below w.heap.size w w'))
  case atStart => exact ⟨(y171), (0), (by first | rfl | (simp; done) | (simp [*]; done)), H', ⟨Nat.le_refl _⟩, ⟨by (with_reducible repeat (first | apply Kd.R_alloc | apply Kd.R_drewN | apply Kd.R_drew)); exact HO173.out⟩, ⟨by repeat (first | (with_reducible first | exact HB.out | apply below_alloc | apply pw_below_drewN | apply below_drew1) | exact HB.out)⟩⟩
  case round =>
    clear H'
    try clear p2
    try clear c3
    obtain ⟨x5_1, x11_1, rfl, HA, HK1, HO_5, HB⟩ := hrel
    cases gk with
    | zero => exact absurd HA.out (by simp [impl_joined.l0])
    | succ k1 =>
      have H := HA.out
      clear HA
      simp only [impl_joined.l0] at H
      by_cases c5 : x11_1 < (l0.length : Int)
      · rw [if_pos c5] at H
        have c5b0 : decide (x11_1 < (l0.length : Int)) = true := decide_eq_true c5
        clear c5
        by_cases c6 : 0 ≤ x11_1
        · rw [if_pos c6] at H
          have c6b0 : decide (0 ≤ x11_1) = true := decide_eq_true c6
          clear c6
          by_cases c7 : x11_1 < (l0.length : Int)
          · rw [if_pos c7] at H
            have c7b0 : decide (x11_1 < (l0.length : Int)) = true := decide_eq_true c7
            clear c7
            replace H := Option.bind_eq_some_iff.mp H
            obtain ⟨t175, A80, H⟩ := H
            replace H : (if x5_1.length < 8796093022208 then (impl_joined.l0 k1 a1 (x5_1 ++ [t175]) l0 (l0.length : Int) (wrap64 (x11_1 + 1))) else (none)) = some r := H
            have A8 := Aside0.mk A80
            clear A80
            by_cases c9 : x5_1.length < 8796093022208
            · rw [if_pos c9] at H
              have LMc9 := Aside0.mk c9
              clear c9
              obtain ⟨y176, hy176⟩ : ∃ y_ : List ByteArray, y_ = (x5_1 ++ [t175]) := ⟨_, rfl⟩
              replace H : (impl_joined.l0 k1 a1 y176 l0 (l0.length : Int) (wrap64 (x11_1 + 1))) = some r := by first | (rw [hy176]; with_reducible exact H) | (have H2_ := (Option.bind_some _ _).symm.trans H; rw [hy176]; with_reducible exact H2_) | (have H2_ := (Option.bind_some _ _).symm.trans H; with_reducible exact H2_) | with_reducible exact H | (rw [hy176]; exact H) | exact H
              have Ny176 := Aside0.mk hy176
              clear hy176
              have H' := Aside0.mk H
              clear H
              have p174 : 0 ≤ (x11_1 : Int) := of_decide_eq_true (by first | (with_reducible assumption) | assumption)
              have q174 : x11_1 < (l0.length : Int) := of_decide_eq_true (by first | (with_reducible assumption) | assumption)
              obtain ⟨ad174, e174, hx174_0⟩ := Kd.at_int HR0.out x11_1 p174 q174
              cases e174
              replace hx174_0 := (HB.out.cell (World.block_lt_of_cell? w _ hx174_0)).trans hx174_0
              replace p174 := eq_true p174
              replace q174 := eq_true q174
              go_wp2_with (first | ((with_reducible refine gate_callee (f := 59) rfl ?_); refine goesL_ (some 17) rfl rfl Tryd.func59 (by kernel_rfl) rfl #[.int .i64 (rd l0 x11_1)] rfl (by (try simp only [List.map_toArray, List.map_cons, List.map_nil]); first | done | rfl | (simp only [List.length_drop, List.length_take]; rfl)) ?_; (with_reducible refine (strconv_Itoa.calls (rd l0 x11_1) t175 _ ?side1 A8.out).mono ?_); (case side1 => exact Gl.below HG.out (by repeat (first | (with_reducible first | exact HB.out | apply below_alloc | apply pw_below_drewN | apply below_drew1) | exact HB.out))); rintro e w10 ⟨rfl, hb⟩; refine ⟨_, rfl, ?_⟩; have n0_ := Aside0.mk (Kd.R_below (by (with_reducible repeat (first | apply Kd.R_alloc | apply Kd.R_drewN | apply Kd.R_drew)); exact HO_5.out) hb); have n1_ := Aside0.mk (below_step (by repeat (first | (with_reducible first | exact HB.out | apply below_alloc | apply pw_below_drewN | apply below_drew1) | exact HB.out)) hb); clear HO_5; clear HB; have HO_5 := n0_; have HB := n1_; clear n0_ n1_; (try clear hb); (try clear hb2); (try clear hk); (try clear hi)) | ((with_reducible refine gate_builtin (b := .append) (xs := #[.tmp 15, .tmp 18]) rfl ?_); at_builtin; refine Kd.R_append Kd.string (w0 := w) w.heap.size rfl (.tmp 15) (.tmp 18) 63 9 (.string ⟨#[]⟩) 16 rfl Tryd.underlying63 info9 rfl (by decide) (by omega) u5 x5_1 t175 [.string t175] (fun _ => True) (fun _ => False) rfl rfl ?aP (fun _ hk => hk.elim) ?aF ?aO ?aB ?aS ?aL ?_; (case aP => exact rfl); (case aB => exact (by repeat (first | (with_reducible first | exact HB.out | apply below_alloc | apply pw_below_drewN | apply below_drew1) | exact HB.out))); (case aF => exact (fun _ _ => trivial)); (case aO => exact (by (with_reducible repeat (first | apply Kd.R_alloc | apply Kd.R_drewN | apply Kd.R_drew)); exact HO_5.out)); (case aS => exact (below_size (by repeat (first | (with_reducible first | exact HB.out | apply below_alloc | apply pw_below_drewN | apply below_drew1) | exact HB.out)))); (case aL => have := LMc9.out; omega); intro v177 w11 ho hb hg hat; rw [← Ny176.out] at ho; have n0_ := Aside0.mk (hb); have n1_ := Aside0.mk (ho); clear HB; clear HO_5; have HB := n0_; have HO178 := n1_; clear n0_ n1_; clear ho hb hg hat))
              go_roundg k1
              case measure => have := HK1.out; omega
              case rel => exact ⟨(y176), (wrap64 (x11_1 + 1)), (by first | rfl | (simp; done) | (simp [*]; done)), H', ⟨by have := HK1.out; omega⟩, ⟨by (with_reducible repeat (first | apply Kd.R_alloc | apply Kd.R_drewN | apply Kd.R_drew)); exact HO178.out⟩, ⟨by repeat (first | (with_reducible first | exact HB.out | apply below_alloc | apply pw_below_drewN | apply below_drew1) | exact HB.out)⟩⟩
            · rw [if_neg c9] at H
              exact absurd H (by simp)
          · rw [if_neg c7] at H
            exact absurd H (by simp)
        · rw [if_neg c6] at H
          exact absurd H (by simp)
      · rw [if_neg c5] at H
        have c5b0 : decide (x11_1 < (l0.length : Int)) = false := decide_eq_false c5
        clear c5
        replace H := Option.bind_eq_some_iff.mp H
        obtain ⟨t179, A120, H⟩ := H
        replace H : (some t179) = some r := H
        have A12 := Aside0.mk A120
        clear A120
        obtain rfl := Option.some.inj H
        obtain ⟨Ao13, co13, eo13⟩ := Kd.R_slice HO_5.out
        subst eo13
        go_wp2_with (first | ((with_reducible refine gate_callee (f := 66) rfl ?_); refine goesL_ (some 23) rfl rfl Tryd.func66 (by kernel_rfl) rfl #[.slice Ao13 x5_1.length co13, .string a1] rfl (by (try simp only [List.map_toArray, List.map_cons, List.map_nil]); first | done | rfl | (simp only [List.length_drop, List.length_take]; rfl)) ?_; (with_reducible refine (strings_Join.calls _ _ x5_1 a1 t179 _ ?side1 ?side2 A12.out).mono ?_); (case side1 => repeat (first | exact (Kd.R_reads' HO_5.out).2.2 | (with_reducible refine Kd.C_alloc ?_ _) | (with_reducible refine Kd.C_drewN ?_ _) | (with_reducible refine Kd.C_drew ?_))); (case side2 => exact (Kd.R_reads' HO_5.out).2.1); rintro e w14 ⟨rfl, hb⟩; refine ⟨_, rfl, ?_⟩; have n0_ := Aside0.mk (Kd.R_below (by (with_reducible repeat (first | apply Kd.R_alloc | apply Kd.R_drewN | apply Kd.R_drew)); exact HO_5.out) hb); have n1_ := Aside0.mk (below_step (by repeat (first | (with_reducible first | exact HB.out | apply below_alloc | apply pw_below_drewN | apply below_drew1) | exact HB.out)) hb); clear HO_5; clear HB; have HO_5 := n0_; have HB := n1_; clear n0_ n1_; (try clear hb); (try clear hb2); (try clear hk); (try clear hi)))
        go_ret
        exact ⟨by first | rfl | (simp [errW_none, errW_some] <;> rfl) | (simp [*, errW_none, errW_some] <;> rfl), by repeat (first | (with_reducible first | exact HB.out | apply below_alloc | apply pw_below_drewN | apply below_drew1) | exact HB.out)⟩

/-! ### impl_ringCycle: function 50, by hand -/
instance decMemBytes (s : ByteArray) (ks : List ByteArray) : Decidable (s ∈ ks) := @List.instDecidableMemOfLawfulBEq ByteArray instBEqOfDecidableEq inferInstance s ks
/-- The place of a key in a list of keys. -/
def posOf (s : ByteArray) : List ByteArray → Nat
  | [] => 0
  | x :: r => if x = s then 0 else posOf s r + 1
theorem posOf_snoc_old {s : ByteArray} (y : ByteArray) : ∀ {ks : List ByteArray}, s ∈ ks → posOf s (ks ++ [y]) = posOf s ks
  | [], h => by simp at h
  | x :: r, h => by
    by_cases e : x = s
    · simp [posOf, e]
    · have : s ∈ r := by
        rcases List.mem_cons.1 h with h2 | h2
        · exact absurd h2.symm e
        · exact h2
      simp [posOf, e, posOf_snoc_old y this]
theorem posOf_snoc_new {s : ByteArray} : ∀ {ks : List ByteArray}, s ∉ ks → posOf s (ks ++ [s]) = ks.length
  | [], _ => by simp [posOf]
  | x :: r, h => by
    have h1 : x ≠ s := fun e => h (by simp [e])
    have h2 : s ∉ r := fun e => h (by simp [e])
    simp [posOf, h1, posOf_snoc_new h2]
theorem posOf_lt {s : ByteArray} : ∀ {ks : List ByteArray}, s ∈ ks → posOf s ks < ks.length
  | [], h => by simp at h
  | x :: r, h => by
    by_cases e : x = s
    · simp [posOf, e]
    · have : s ∈ r := by
        rcases List.mem_cons.1 h with h2 | h2
        · exact absurd h2.symm e
        · exact h2
      have := posOf_lt this
      simp [posOf, e]; omega
/-- Block b (of the call's own) is a map that bears the keys ks, each with its place. -/
def MapIn (W : World) (base b : Nat) (ks : List ByteArray) : Prop :=
  base ≤ b ∧ ∃ D : DataW Unit, W.ownsMap Tryd.prog 9 (plainElem Tryd.prog 3) b ks.length D ∧ (∀ s : ByteArray, Maps.has D (.string s.data.toList) = decide (s ∈ ks)) ∧ ∀ s : ByteArray, s ∈ ks → D.atKey (.string s.data.toList) (.lit (.int .i64 0)) = .lit (.int .i64 (posOf s ks : Int))
theorem MapIn.keep {W W1 : World} {base b : Nat} {ks : List ByteArray} (h : MapIn W base b ks) (e : W1.heap[b]? = W.heap[b]?) : MapIn W1 base b ks := by
  obtain ⟨h1, D, ⟨es, clock, hb, r⟩, h3⟩ := h
  exact ⟨h1, D, ⟨es, clock, e.trans hb, r⟩, h3⟩
theorem MapIn.lt {W : World} {base b : Nat} {ks : List ByteArray} (h : MapIn W base b ks) : b < W.heap.size := by
  obtain ⟨h1, D, h2, h3⟩ := h
  exact h2.lt
theorem MapIn.isMap {W : World} {base b : Nat} {ks : List ByteArray} (h : MapIn W base b ks) : ∃ es clock, W.heap[b]? = some (.map es clock) := by
  obtain ⟨h1, D, ⟨es, clock, hb, r⟩, h3⟩ := h
  exact ⟨es, clock, hb⟩
theorem MapIn.below {W W1 : World} {base b : Nat} {ks : List ByteArray} (h : MapIn W base b ks) (hb : Below W.heap.size W W1) : MapIn W1 base b ks := h.keep (hb.block b h.lt)
theorem MapIn.alloc {W : World} {base b : Nat} {ks : List ByteArray} (h : MapIn W base b ks) (o : Obj) : MapIn (W.alloc o) base b ks := h.below (below_alloc (Below.refl _ _) o)
theorem MapIn.drew {W : World} {base b : Nat} {ks : List ByteArray} (h : MapIn W base b ks) : MapIn W.drew base b ks := h.below (below_drew (Below.refl _ _))
theorem MapIn.drewN {W : World} {base b : Nat} {ks : List ByteArray} (h : MapIn W base b ks) (m : Nat) : MapIn (W.drewN m) base b ks := h.below (pw_below_drewN (Below.refl _ _) m)
theorem MapIn.grownS {α : Type} {d : Kd α} {e : Nat} {W W1 : World} {B base b : Nat} {ok : Nat → Prop} {v : Value} {xs : List α} {ks : List ByteArray} (h : MapIn W base b ks) (hS : Kd.S d e W B ok v xs) (hg : W.grownBy W1 v.ownBlock) : MapIn W1 base b ks := by
  refine h.keep (hg.block b h.lt fun e => ?_)
  obtain ⟨es, clock, hm⟩ := h.isMap
  obtain ⟨cells, hc⟩ := Kd.S_typed hS b e.symm
  rw [hm] at hc
  cases hc
theorem S_map {α : Type} {d : Kd α} {e : Nat} {W W1 : World} {B base b : Nat} {ok : Nat → Prop} {v : Value} {xs : List α} {ks : List ByteArray} (h : Kd.S d e W B ok v xs) (hm : MapIn W base b ks) (hg : W.grownBy W1 (some b)) : Kd.S d e W1 B ok v xs := by
  refine Kd.S_mono (Kd.S_step (Kd.S_bound h) (fun k hk hlt => hg.block k hlt fun e => ?_)) (fun _ hk => hk.1)
  obtain ⟨es, clock, hb⟩ := hm.isMap
  obtain ⟨_, _, _, q, _, cells, hc⟩ := hk
  cases e
  rw [hb] at hc
  cases hc
theorem R_map {α : Type} {d : Kd α} {e : Nat} {W W1 : World} {B base b : Nat} {ok : Nat → Prop} {v : Value} {xs : List α} {ks : List ByteArray} (h : Kd.R d e W B ok v xs) (hm : MapIn W base b ks) (hg : W.grownBy W1 (some b)) : Kd.R d e W1 B ok v xs := by
  refine Kd.R_mono (Kd.R_step (Kd.R_bound h) (fun k hk hlt => hg.block k hlt fun e => ?_)) (fun _ hk => hk.1)
  obtain ⟨es, clock, hb⟩ := hm.isMap
  obtain ⟨_, _, _, q, _, cells, hc⟩ := hk
  cases e
  rw [hb] at hc
  cases hc
theorem zeroInt_ (w : World) : (zeroValue 3).run Tryd.prog w = .ok (.int .i64 0) w := by kernel_rfl
section
variable {ops : Array Oper} {rest : List Oper} {o : Oper} {a : Act} {Q : Exit → Act → World → Prop} {W : World}
theorem gate_map {t : TypeId} {m x v : Operand} (_ho : o.op = .mapUpdate t m x v) (h : wpList Tryd.prog ops Q (o :: rest) a W) : wpList Tryd.prog ops Q (o :: rest) a W := h
theorem makeMap_ (hg : o.guard = none) {t : TypeId} (hop : o.op = .makeMap t none) {base : Nat} (hbase : base ≤ W.heap.size) (h : ∀ b W1, MapIn W1 base b [] → Below W.heap.size W W1 → wpList Tryd.prog ops Q rest (a.put o.dst (.map (some b))) W1) : wpList Tryd.prog ops Q (o :: rest) a W := by
  refine wpList_plain hg fun K' hK' => ?_
  have hr := @run_makeMap Tryd.prog t W
  unfold Oper.wp
  simp [execOp, hop, hr, Result.andThen]
  refine hK' _ _ (h _ _ ⟨hbase, .map [], World.ownsMap_made _ _ _ _, fun s => by simp [Maps.has], fun s hs => by simp at hs⟩ (below_alloc (Below.refl _ _) _))
theorem look_hit_ (hg : o.guard = none) {m x : Operand} (hop : o.op = .lookup 75 m x true) {base b : Nat} {ks : List ByteArray} {s : ByteArray} (hM : MapIn W base b ks) (hz : s.size ≤ 140737488355328) (hs : s ∈ ks) (hm : a.eval m = .map (some b)) (hx : a.eval x = .string s)
    (h : wpList Tryd.prog ops Q rest (a.put o.dst (.tuple #[.int .i64 (posOf s ks : Int), .bool true])) W) : wpList Tryd.prog ops Q (o :: rest) a W := by
  refine wpList_plain hg fun K' hK' => ?_
  obtain ⟨h1, D, h2, h3, h4⟩ := hM
  have hz' : s.size ≤ maxLen := Nat.le_trans hz (by decide)
  obtain ⟨v, ps, hrun, hv⟩ := h2.look_ok (Maps.string_keyed Tryd.underlying9) Tryd.underlying75 (z := .int .i64 0) (zeroInt_ W) (plainElem_int Tryd.underlying3 (by decide)) (WideMaps.keyOf_string_mk Tryd.underlying9 hz')
  rw [h4 s hs] at hv
  obtain ⟨c, rfl, hc, _⟩ := plainElem_int_inv Tryd.underlying3 hv
  injection hc with hc _
  injection hc with hc
  injection hc with _ hc
  rw [h3 s, decide_eq_true hs] at hrun
  subst hc
  unfold Oper.wp
  simp [execOp, hop, hm, hx, hrun, Result.andThen]
  exact hK' _ _ h
theorem look_miss_ (hg : o.guard = none) {m x : Operand} (hop : o.op = .lookup 75 m x true) {base b : Nat} {ks : List ByteArray} {s : ByteArray} (hM : MapIn W base b ks) (hz : s.size ≤ 140737488355328) (hs : s ∉ ks) (hm : a.eval m = .map (some b)) (hx : a.eval x = .string s)
    (h : ∀ c : Int, wpList Tryd.prog ops Q rest (a.put o.dst (.tuple #[.int .i64 c, .bool false])) W) : wpList Tryd.prog ops Q (o :: rest) a W := by
  refine wpList_plain hg fun K' hK' => ?_
  obtain ⟨h1, D, h2, h3, h4⟩ := hM
  have hz' : s.size ≤ maxLen := Nat.le_trans hz (by decide)
  obtain ⟨v, ps, hrun, hv⟩ := h2.look_ok (Maps.string_keyed Tryd.underlying9) Tryd.underlying75 (z := .int .i64 0) (zeroInt_ W) (plainElem_int Tryd.underlying3 (by decide)) (WideMaps.keyOf_string_mk Tryd.underlying9 hz')
  obtain ⟨c, rfl, hc, _⟩ := plainElem_int_inv Tryd.underlying3 hv
  rw [h3 s, decide_eq_false hs] at hrun
  unfold Oper.wp
  simp [execOp, hop, hm, hx, hrun, Result.andThen]
  exact hK' _ _ (h c)
theorem put_map_ (hg : o.guard = none) {m x v : Operand} (hop : o.op = .mapUpdate 75 m x v) {base b : Nat} {ks : List ByteArray} {s : ByteArray} {n : Int} (hM : MapIn W base b ks) (hz : s.size ≤ 140737488355328) (hs : s ∉ ks) (hn : n = ks.length) (hl : ks.length < 5864062014805)
    (hm : a.eval m = .map (some b)) (hx : a.eval x = .string s) (hv : a.eval v = .int .i64 n)
    (h : ∀ W1, MapIn W1 base b (ks ++ [s]) → W.grownBy W1 (some b) → wpList Tryd.prog ops Q rest (a.put o.dst undef) W1) : wpList Tryd.prog ops Q (o :: rest) a W := by
  subst hn
  obtain ⟨h1, D, h2, h3, h4⟩ := hM
  have hz' : s.size ≤ maxLen := Nat.le_trans hz (by decide)
  have hw : (Lit.int .i64 (ks.length : Int)).wf = true := by simp [Lit.wf, IntKind.min, IntKind.max, IntKind.bits, IntKind.signed]; omega
  refine wpList_mapUpdate_own W hg m x v _ hop _ _ (Maps.string_keyed Tryd.underlying9) Tryd.underlying75 _ b ks.length D hm h2 (Nat.lt_trans hl (by decide)) _ _ _ hx hv (WideMaps.keyOf_string_mk Tryd.underlying9 hz') _ _ (plainElem_int Tryd.underlying3 hw) ?_
  intro W1 o1 g1
  have hkl : WideAt.IsKeyLit (.string s.data.toList) := ?hkl
  refine h W1 ⟨h1, _, by rw [List.length_append]; exact o1, fun y => ?_, fun y hy => ?_⟩ g1
  case hkl => first | trivial | exact ⟨⟩ | (simp [WideAt.IsKeyLit]; done)
  · by_cases e : y = s
    · subst e; rw [Maps.has_put_same h2.isMap hkl]; simp
    · have e2 : (Lit.string y.data.toList) ≠ .string s.data.toList := fun hh => e (by
        injection hh with hh
        cases y; cases s; simp_all [Array.toList_inj])
      rw [Maps.has_put_other e2, h3]; simp [e]
  · by_cases e : y = s
    · subst e; rw [Maps.atKey_put_same h2.isMap hkl, posOf_snoc_new hs]
    · have e2 : (Lit.string y.data.toList) ≠ .string s.data.toList := fun hh => e (by
        injection hh with hh
        cases y; cases s; simp_all [Array.toList_inj])
      have hy2 : y ∈ ks := by
        rcases List.mem_append.1 hy with h' | h'
        · exact h'
        · exact absurd (List.mem_singleton.1 h') e
      rw [Maps.atKey_put_other e2, h4 y hy2, posOf_snoc_old s hy2]
end
def impl_ringCycle.l0 : Nat → List ByteArray → List (List Int) → List Int → Option ((List (List Int)) × Int)
  | 0, _, _, _ => none
  | k + 1, ks, x5, x6 => (impl_joined.f k x6 (⟨#[45]⟩ : ByteArray)).bind fun t126 => (if t126.size ≤ 140737488355328 then (if t126 ∈ ks then (some (x5, (posOf t126 ks : Int))) else (if x5.length < 5864062014805 then ((impl_ringStep.f k x6).bind fun t133 => (impl_ringCycle.l0 k (ks ++ [t126]) (x5 ++ [x6]) t133)) else (none))) else (none))
def impl_ringCycle.f (k : Nat) (l0 : List Int) : Option ((List (List Int)) × Int) := (slices_Clone_int_int.f l0).bind fun t123 => (impl_ringCycle.l0 k [] (([] : List (List Int))) t123)
theorem impl_ringCycle.mono_l : ∀ k, (∀ y0 y1 y2, LeO (impl_ringCycle.l0 k y0 y1 y2) (impl_ringCycle.l0 (k + 1) y0 y1 y2))
  | 0 => fun _ _ _ r h => by simp [impl_ringCycle.l0] at h
  | k + 1 => by
    have ih0 := impl_ringCycle.mono_l k
    · intro y0 y1 y2
      unfold impl_ringCycle.l0
      repeat' first
      | (with_reducible exact ih0 _ _ _)
      | (with_reducible exact impl_joined.mono _ _ _)
      | (with_reducible exact impl_ringStep.mono _ _)
      | (with_reducible exact LeO.refl _)
      | (with_reducible exact LeO.none _)
      | (with_reducible refine LeO.ite ?_ ?_)
      | (with_reducible refine LeO.bind ?_ (fun _ => ?_))
      | exact ih0 _ _ _
      | exact impl_joined.mono _ _ _
      | exact impl_ringStep.mono _ _
      | exact LeO.none _
      | refine LeO.ite ?_ ?_
      | refine LeO.bind ?_ (fun _ => ?_)
theorem impl_ringCycle.mono : ∀ a0 k, LeO (impl_ringCycle.f k a0) (impl_ringCycle.f (k + 1) a0) := by
  intro a0 k
  have ih0 := impl_ringCycle.mono_l k
  unfold impl_ringCycle.f
  repeat' first
      | (with_reducible exact ih0 _ _ _)
      | (with_reducible exact impl_joined.mono _ _ _)
      | (with_reducible exact impl_ringStep.mono _ _)
      | (with_reducible exact LeO.refl _)
      | (with_reducible exact LeO.none _)
      | (with_reducible refine LeO.ite ?_ ?_)
      | (with_reducible refine LeO.bind ?_ (fun _ => ?_))
      | exact ih0 _ _ _
      | exact impl_joined.mono _ _ _
      | exact impl_ringStep.mono _ _
      | exact LeO.none _
      | refine LeO.ite ?_ ?_
      | refine LeO.bind ?_ (fun _ => ?_)
set_option maxHeartbeats 8000000 in
set_option maxRecDepth 100000 in
theorem impl_ringCycle.calls (k : Nat) (A0 : Option Addr) (c0 : Nat) (l0 : List Int) (r1 : List (List Int)) (r2 : Int) (w : World) (hr0 : Kd.C (Kd.int .i64) w A0 l0.length l0) (hc0 : l0.length ≤ c0) (hG : Gl w) (h : impl_ringCycle.f k l0 = some (r1, r2)) :
    Calls Tryd.prog 50 #[.slice A0 l0.length c0] w fun e w' => ∃ v0_ : Value, e = .returned (.tuple #[v0_, .int .i64 r2]) ∧ Kd.S (Kd.slice 3 (Kd.int .i64)) 22 w' w.heap.size (fun _ => True) v0_ r1 ∧ Below w.heap.size w w' := by
  have HR0 := Aside0.mk hr0
  have HC0 := Aside0.mk hc0
  clear hr0 hc0
  have HG := Aside0.mk hG
  clear hG
  have HB := Aside0.mk (Below.refl w.heap.size w)
  have H : ((slices_Clone_int_int.f l0).bind fun t123 => (impl_ringCycle.l0 k [] (([] : List (List Int))) t123)) = some (r1, r2) := h
  clear h
  obtain ⟨y120, hy120⟩ : ∃ y_ : List (List Int), y_ = (([] : List (List Int))) := ⟨_, rfl⟩
  replace H : ((slices_Clone_int_int.f l0).bind fun t123 => (impl_ringCycle.l0 k [] y120 t123)) = some (r1, r2) := by first | (rw [hy120]; with_reducible exact H) | (have H2_ := (Option.bind_some _ _).symm.trans H; rw [hy120]; with_reducible exact H2_) | (have H2_ := (Option.bind_some _ _).symm.trans H; with_reducible exact H2_) | with_reducible exact H | (rw [hy120]; exact H) | exact H
  have Ny120 := Aside0.mk hy120
  clear hy120
  replace H := Option.bind_eq_some_iff.mp H
  obtain ⟨t123, A30, H⟩ := H
  replace H : (impl_ringCycle.l0 k [] y120 t123) = some (r1, r2) := H
  have A3 := Aside0.mk A30
  clear A30
  have H' := Aside0.mk H
  clear H
  go_enter Tryd.func50, Tryd.ntmps50
  go_wp2_with (first | ((with_reducible refine gate_dst (N := 10) rfl ?_); refine makeMap_ rfl rfl (base := w.heap.size) (below_size (by repeat (first | (with_reducible first | exact HB.out | apply below_alloc | apply pw_below_drewN | apply below_drew1) | exact HB.out))) ?_; intro bm w2 hm hb; have n0_ := Aside0.mk (below_step (by repeat (first | (with_reducible first | exact HB.out | apply below_alloc | apply pw_below_drewN | apply below_drew1) | exact HB.out)) hb); have n1_ := Aside0.mk hm; clear HB; have HB := n0_; have HM := n1_; clear n0_ n1_; clear hm hb) | ((with_reducible refine gate_dst (N := 11) rfl ?_); refine Kd.S_lit (Kd.slice 3 (Kd.int .i64)) _ 22 ?hg (N := 11) ?hd (xs := ([] : List (List Int))) (inner := []) (ok := fun _ => True) (okp := fun _ => True) ?hr ?hp (fun _ hk => hk) trivial (Below.refl _ _) (Nat.le_refl _) (by simp) ?_; (case hd => rfl); (case hg => rfl); (case hr => first | (go_simp; done) | (go_simp; rfl)); (case hp => exact (Reps.none _ _)); intro v121 w4 ho5 hb hg_ hnew_; clear hg_ hnew_; (first | rw [← Ny120.out] at ho5 | (simp only [Int.reduceToNat] at ho5; rw [← Ny120.out] at ho5)); have n0_ := Aside0.mk (Kd.S_lower ho5 (below_size (by repeat (first | (with_reducible first | exact HB.out | apply below_alloc | apply pw_below_drewN | apply below_drew1) | exact HB.out)))); have n1_ := Aside0.mk (below_step (by repeat (first | (with_reducible first | exact HB.out | apply below_alloc | apply pw_below_drewN | apply below_drew1) | exact HB.out)) hb); clear HB; have nm_ := Aside0.mk (MapIn.below (by (with_reducible repeat (first | apply MapIn.alloc | apply MapIn.drewN | apply MapIn.drew)); exact HM.out) hb); clear HM; have HM := nm_; clear nm_; have HO122 := n0_; have HB := n1_; clear n0_ n1_; clear hb ho5) | ((with_reducible refine gate_callee (f := 73) rfl ?_); refine goesL_ (some 13) rfl rfl Tryd.func73 (by kernel_rfl) rfl #[.slice A0 l0.length c0] rfl (by (try simp only [List.map_toArray, List.map_cons, List.map_nil]); first | done | rfl | (simp only [List.length_drop, List.length_take]; rfl)) ?_; (with_reducible refine (slices_Clone_int_int.calls _ _ l0 t123 _ ?side1 ?side2 A3.out).mono ?_); (case side1 => repeat (first | exact (Kd.C_below HR0.out HB.out) | (with_reducible refine Kd.C_alloc ?_ _) | (with_reducible refine Kd.C_drewN ?_ _) | (with_reducible refine Kd.C_drew ?_))); (case side2 => exact HC0.out); rintro e w6 ⟨v124, rfl, ho0, hb⟩; refine ⟨_, rfl, ?_⟩; have n0_ := Aside0.mk (Kd.S_elder' (by (with_reducible repeat (first | apply Kd.S_alloc | apply Kd.S_drewN | apply Kd.S_drew)); exact HO122.out) (Kd.R_base ho0) hb); have n1_ := Aside0.mk (Kd.R_lower ho0 (below_size (by repeat (first | (with_reducible first | exact HB.out | apply below_alloc | apply pw_below_drewN | apply below_drew1) | exact HB.out)))); have n2_ := Aside0.mk (below_step (by repeat (first | (with_reducible first | exact HB.out | apply below_alloc | apply pw_below_drewN | apply below_drew1) | exact HB.out)) hb); have nm_ := Aside0.mk (MapIn.below (by (with_reducible repeat (first | apply MapIn.alloc | apply MapIn.drewN | apply MapIn.drew)); exact HM.out) hb); clear HM; have HM := nm_; clear nm_; clear HO122; clear HB; have HO122 := n0_; have HO125 := n1_; have HB := n2_; clear n0_ n1_ n2_; (try clear hb); (try clear hb2); (try clear hk); (try clear hi); (try clear ho0)))
  go_loopg [5, 6] k (fun kq v5 v6 w' => ∃ (ks : List ByteArray) (x5_1 : List (List Int)) (x6_1 : List Int), Aside0 (MapIn w' w.heap.size bm ks) ∧ Aside0 (ks.length = x5_1.length) ∧ Aside0 (impl_ringCycle.l0 kq ks x5_1 x6_1 = some (r1, r2)) ∧ Aside0 (kq ≤ k) ∧ Aside0 (Kd.S (Kd.slice 3 (Kd.int .i64)) 22 w' w.heap.size (fun k_ => some k_ ≠ (v6 : Value).ownBlock) v5 x5_1) ∧ Aside0 (Kd.R (Kd.int .i64) 3 w' w.heap.size (fun _ => True) v6 x6_1) ∧ Aside0 (Below w.heap.size w w'))
  case atStart => exact ⟨[], (y120), (t123), ⟨(by (with_reducible repeat (first | apply MapIn.alloc | apply MapIn.drewN | apply MapIn.drew)); exact HM.out)⟩, ⟨by rw [Ny120.out]; rfl⟩, H', ⟨Nat.le_refl _⟩, ⟨by (with_reducible repeat (first | apply Kd.S_alloc | apply Kd.S_drewN | apply Kd.S_drew)); exact Kd.S_mono HO122.out (fun _ hk => hk.2)⟩, ⟨by (with_reducible repeat (first | apply Kd.R_alloc | apply Kd.R_drewN | apply Kd.R_drew)); exact HO125.out⟩, ⟨by repeat (first | (with_reducible first | exact HB.out | apply below_alloc | apply pw_below_drewN | apply below_drew1) | exact HB.out)⟩⟩
  case round =>
    clear H'
    try clear p2
    try clear c5
    try clear c6
    clear HM
    obtain ⟨ks, x5_1, x6_1, HM, HL, HA, HK1, HO_5, HO_6, HB⟩ := hrel
    cases gk with
    | zero => exact absurd HA.out (by simp [impl_ringCycle.l0])
    | succ k1 =>
      have H := HA.out
      clear HA
      simp only [impl_ringCycle.l0] at H
      replace H := Option.bind_eq_some_iff.mp H
      obtain ⟨t126, A70, H⟩ := H
      replace H : (if t126.size ≤ 140737488355328 then (if t126 ∈ ks then (some (x5_1, (posOf t126 ks : Int))) else (if x5_1.length < 5864062014805 then ((impl_ringStep.f k1 x6_1).bind fun t133 => (impl_ringCycle.l0 k1 (ks ++ [t126]) (x5_1 ++ [x6_1]) t133)) else (none))) else (none)) = some (r1, r2) := H
      have A7 := Aside0.mk A70
      clear A70
      by_cases cz : t126.size ≤ 140737488355328
      case neg => rw [if_neg cz] at H; exact absurd H (by simp)
      rw [if_pos cz] at H
      have CZ := Aside0.mk cz
      clear cz
      by_cases c9 : t126 ∈ ks
      · rw [if_pos c9] at H
        have C9 := Aside0.mk c9
        clear c9
        simp only [Option.some.injEq, Prod.mk.injEq] at H
        obtain ⟨rfl, rfl⟩ := H
        obtain ⟨Ao10, co10, eo10⟩ := Kd.R_slice HO_6.out
        subst eo10
        go_wp2_with (first | ((with_reducible refine gate_callee (f := 38) rfl ?_); refine goesL_ (some 17) rfl rfl Tryd.func38 (by kernel_rfl) rfl #[.slice Ao10 x6_1.length co10, .string (⟨#[45]⟩ : ByteArray)] rfl (by (try simp only [List.map_toArray, List.map_cons, List.map_nil]); first | done | rfl | (simp only [List.length_drop, List.length_take]; rfl)) ?_; (with_reducible refine (impl_joined.calls k1 _ _ x6_1 (⟨#[45]⟩ : ByteArray) t126 _ ?side1 ?side2 ?side3 A7.out).mono ?_); (case side1 => repeat (first | exact (Kd.R_reads' HO_6.out).2.2 | (with_reducible refine Kd.C_alloc ?_ _) | (with_reducible refine Kd.C_drewN ?_ _) | (with_reducible refine Kd.C_drew ?_))); (case side2 => exact (Kd.R_reads' HO_6.out).2.1); (case side3 => exact Gl.below HG.out (by repeat (first | (with_reducible first | exact HB.out | apply below_alloc | apply pw_below_drewN | apply below_drew1) | exact HB.out))); rintro e w11 ⟨rfl, hb⟩; refine ⟨_, rfl, ?_⟩; have n0_ := Aside0.mk (Kd.S_below (by (with_reducible repeat (first | apply Kd.S_alloc | apply Kd.S_drewN | apply Kd.S_drew)); exact HO_5.out) hb); have n1_ := Aside0.mk (Kd.R_below (by (with_reducible repeat (first | apply Kd.R_alloc | apply Kd.R_drewN | apply Kd.R_drew)); exact HO_6.out) hb); have n2_ := Aside0.mk (below_step (by repeat (first | (with_reducible first | exact HB.out | apply below_alloc | apply pw_below_drewN | apply below_drew1) | exact HB.out)) hb); have nm_ := Aside0.mk (MapIn.below (by (with_reducible repeat (first | apply MapIn.alloc | apply MapIn.drewN | apply MapIn.drew)); exact HM.out) hb); clear HM; have HM := nm_; clear nm_; clear HO_5; clear HO_6; clear HB; have HO_5 := n0_; have HO_6 := n1_; have HB := n2_; clear n0_ n1_ n2_; (try clear hb); (try clear hb2); (try clear hk); (try clear hi)) | ((with_reducible refine gate_dst (N := 21) rfl ?_); refine look_hit_ rfl rfl (by (with_reducible repeat (first | apply MapIn.alloc | apply MapIn.drewN | apply MapIn.drew)); exact HM.out) CZ.out C9.out rfl rfl ?_))
        go_ret2
        exact ⟨_, by first | rfl | (simp [errW_none, errW_some] <;> rfl) | (simp [*, errW_none, errW_some] <;> rfl), by (with_reducible repeat (first | apply Kd.S_alloc | apply Kd.S_drewN | apply Kd.S_drew)); exact Kd.S_mono HO_5.out (fun _ hk => trivial), by repeat (first | (with_reducible first | exact HB.out | apply below_alloc | apply pw_below_drewN | apply below_drew1) | exact HB.out)⟩
      · rw [if_neg c9] at H
        have C9 := Aside0.mk c9
        clear c9
        by_cases c13 : x5_1.length < 5864062014805
        · rw [if_pos c13] at H
          have LMc13 := Aside0.mk c13
          clear c13
          obtain ⟨y130, hy130⟩ : ∃ y_ : List (List Int), y_ = (x5_1 ++ [x6_1]) := ⟨_, rfl⟩
          replace H : ((impl_ringStep.f k1 x6_1).bind fun t133 => (impl_ringCycle.l0 k1 (ks ++ [t126]) y130 t133)) = some (r1, r2) := by first | (rw [hy130]; with_reducible exact H) | (have H2_ := (Option.bind_some _ _).symm.trans H; rw [hy130]; with_reducible exact H2_) | (have H2_ := (Option.bind_some _ _).symm.trans H; with_reducible exact H2_) | with_reducible exact H | (rw [hy130]; exact H) | exact H
          have Ny130 := Aside0.mk hy130
          clear hy130
          replace H := Option.bind_eq_some_iff.mp H
          obtain ⟨t133, A140, H⟩ := H
          replace H : (impl_ringCycle.l0 k1 (ks ++ [t126]) y130 t133) = some (r1, r2) := H
          have A14 := Aside0.mk A140
          clear A140
          have H' := Aside0.mk H
          clear H
          obtain ⟨Ao15, co15, eo15⟩ := Kd.R_slice HO_6.out
          subst eo15
          go_wp2_with (first | ((with_reducible refine gate_callee (f := 38) rfl ?_); refine goesL_ (some 17) rfl rfl Tryd.func38 (by kernel_rfl) rfl #[.slice Ao15 x6_1.length co15, .string (⟨#[45]⟩ : ByteArray)] rfl (by (try simp only [List.map_toArray, List.map_cons, List.map_nil]); first | done | rfl | (simp only [List.length_drop, List.length_take]; rfl)) ?_; (with_reducible refine (impl_joined.calls k1 _ _ x6_1 (⟨#[45]⟩ : ByteArray) t126 _ ?side1 ?side2 ?side3 A7.out).mono ?_); (case side1 => repeat (first | exact (Kd.R_reads' HO_6.out).2.2 | (with_reducible refine Kd.C_alloc ?_ _) | (with_reducible refine Kd.C_drewN ?_ _) | (with_reducible refine Kd.C_drew ?_))); (case side2 => exact (Kd.R_reads' HO_6.out).2.1); (case side3 => exact Gl.below HG.out (by repeat (first | (with_reducible first | exact HB.out | apply below_alloc | apply pw_below_drewN | apply below_drew1) | exact HB.out))); rintro e w16 ⟨rfl, hb⟩; refine ⟨_, rfl, ?_⟩; have n0_ := Aside0.mk (Kd.S_below (by (with_reducible repeat (first | apply Kd.S_alloc | apply Kd.S_drewN | apply Kd.S_drew)); exact HO_5.out) hb); have n1_ := Aside0.mk (Kd.R_below (by (with_reducible repeat (first | apply Kd.R_alloc | apply Kd.R_drewN | apply Kd.R_drew)); exact HO_6.out) hb); have n2_ := Aside0.mk (below_step (by repeat (first | (with_reducible first | exact HB.out | apply below_alloc | apply pw_below_drewN | apply below_drew1) | exact HB.out)) hb); have nm_ := Aside0.mk (MapIn.below (by (with_reducible repeat (first | apply MapIn.alloc | apply MapIn.drewN | apply MapIn.drew)); exact HM.out) hb); clear HM; have HM := nm_; clear nm_; clear HO_5; clear HO_6; clear HB; have HO_5 := n0_; have HO_6 := n1_; have HB := n2_; clear n0_ n1_ n2_; (try clear hb); (try clear hb2); (try clear hk); (try clear hi)) | ((with_reducible refine gate_dst (N := 21) rfl ?_); refine look_miss_ rfl rfl (by (with_reducible repeat (first | apply MapIn.alloc | apply MapIn.drewN | apply MapIn.drew)); exact HM.out) CZ.out C9.out rfl rfl ?_; intro cm_; obtain ⟨Ao17, co17, eo17⟩ := Kd.S_slice HO_5.out; subst eo17) | ((with_reducible refine gate_map rfl ?_); refine put_map_ rfl rfl (by (with_reducible repeat (first | apply MapIn.alloc | apply MapIn.drewN | apply MapIn.drew)); exact HM.out) CZ.out C9.out (by have := HL.out; omega) (by have := HL.out; have := LMc13.out; omega) rfl rfl rfl ?_; intro w17 hm hg; have n0_ := Aside0.mk (Below.grown (by repeat (first | (with_reducible first | exact HB.out | apply below_alloc | apply pw_below_drewN | apply below_drew1) | exact HB.out)) hg (below_size (by repeat (first | (with_reducible first | exact HB.out | apply below_alloc | apply pw_below_drewN | apply below_drew1) | exact HB.out))) (by rintro k_ e_; cases e_; exact HM.out.1)); have n1_ := Aside0.mk (S_map (by (with_reducible repeat (first | apply Kd.S_alloc | apply Kd.S_drewN | apply Kd.S_drew)); exact HO_5.out) (by (with_reducible repeat (first | apply MapIn.alloc | apply MapIn.drewN | apply MapIn.drew)); exact HM.out) hg); have n2_ := Aside0.mk (R_map (by (with_reducible repeat (first | apply Kd.R_alloc | apply Kd.R_drewN | apply Kd.R_drew)); exact HO_6.out) (by (with_reducible repeat (first | apply MapIn.alloc | apply MapIn.drewN | apply MapIn.drew)); exact HM.out) hg); have nm_ := Aside0.mk hm; clear HM HB HO_5 HO_6; have HM := nm_; have HB := n0_; have HO_5 := n1_; have HO_6 := n2_; clear nm_ n0_ n1_ n2_; clear hm hg) | ((with_reducible refine gate_builtin (b := .append) (xs := #[.tmp 31, .tmp 33]) rfl ?_); at_builtin; refine Kd.S_append (Kd.slice 3 (Kd.int .i64)) (w0 := w) w.heap.size rfl (.tmp 31) (.tmp 33) 59 22 (.slice none 0 0) 24 rfl Tryd.underlying59 info22 rfl (by decide) (by omega) (.slice Ao17 x5_1.length co17) x5_1 x6_1 [.slice Ao15 x6_1.length co15] (fun _ => True) (fun k_ => some k_ = (.slice Ao15 x6_1.length co15 : Value).ownBlock) rfl rfl ?aP (fun k_ hk_ => ((Kd.R_mono (ok' := fun k_ => ((fun _ => True)) k_ ∧ some k_ ≠ (.slice Ao17 x5_1.length co17 : Value).ownBlock) (Kd.R_apart' (HO_6.out) (Kd.S_typed HO_5.out) (by decide)) (fun k_ hk => ⟨trivial, hk.2⟩))).1 k_ hk_.symm) ?aF ?aO ?aB ?aS ?aL ?_; (case aP => exact Kd.M_row (Kd.R_mono (Kd.R_tight rfl (Kd.R_mono (ok' := fun k_ => ((fun _ => True)) k_ ∧ some k_ ≠ (.slice Ao17 x5_1.length co17 : Value).ownBlock) (Kd.R_apart' (HO_6.out) (Kd.S_typed HO_5.out) (by decide)) (fun k_ hk => ⟨trivial, hk.2⟩))) (fun _ h_ => h_))); (case aB => exact (by repeat (first | (with_reducible first | exact HB.out | apply below_alloc | apply pw_below_drewN | apply below_drew1) | exact HB.out))); (case aF => exact (fun _ _ => trivial)); (case aO => exact (by (with_reducible repeat (first | apply Kd.S_alloc | apply Kd.S_drewN | apply Kd.S_drew)); exact Kd.S_mono HO_5.out (fun k_ hk => ⟨trivial, fun e_ => hk e_⟩))); (case aS => exact (below_size (by repeat (first | (with_reducible first | exact HB.out | apply below_alloc | apply pw_below_drewN | apply below_drew1) | exact HB.out)))); (case aL => have := LMc13.out; omega); intro v131 w18 ho hb hg hat; rw [← Ny130.out] at ho; have nm_ := Aside0.mk (MapIn.grownS (by (with_reducible repeat (first | apply MapIn.alloc | apply MapIn.drewN | apply MapIn.drew)); exact HM.out) HO_5.out hg); clear HM; have HM := nm_; clear nm_; have n6_ := Aside0.mk (Kd.R_over' HO_6.out (Kd.S_typed HO_5.out) (by decide) hg); have n0_ := Aside0.mk (hb); have n1_ := Aside0.mk (ho); clear HB; clear HO_5; clear HO_6; have HO_6 := n6_; clear n6_; have HB := n0_; have HO132 := n1_; clear n0_ n1_; clear ho hb hg hat) | ((with_reducible refine gate_callee (f := 74) rfl ?_); refine goesL_ (some 15) rfl rfl Tryd.func74 (by kernel_rfl) rfl #[.slice Ao15 x6_1.length co15] rfl (by (try simp only [List.map_toArray, List.map_cons, List.map_nil]); first | done | rfl | (simp only [List.length_drop, List.length_take]; rfl)) ?_; (with_reducible refine (impl_ringStep.calls k1 _ _ x6_1 t133 _ ?side1 ?side2 A14.out).mono ?_); (case side1 => repeat (first | exact (Kd.R_reads' HO_6.out).2.2 | (with_reducible refine Kd.C_alloc ?_ _) | (with_reducible refine Kd.C_drewN ?_ _) | (with_reducible refine Kd.C_drew ?_))); (case side2 => exact (Kd.R_reads' HO_6.out).2.1); rintro e w19 ⟨v134, rfl, ho0, hb⟩; refine ⟨_, rfl, ?_⟩; have n0_ := Aside0.mk (Kd.S_elder' (by (with_reducible repeat (first | apply Kd.S_alloc | apply Kd.S_drewN | apply Kd.S_drew)); exact HO132.out) (Kd.R_base ho0) hb); have n1_ := Aside0.mk (Kd.R_lower ho0 (below_size (by repeat (first | (with_reducible first | exact HB.out | apply below_alloc | apply pw_below_drewN | apply below_drew1) | exact HB.out)))); have n2_ := Aside0.mk (below_step (by repeat (first | (with_reducible first | exact HB.out | apply below_alloc | apply pw_below_drewN | apply below_drew1) | exact HB.out)) hb); have nm_ := Aside0.mk (MapIn.below (by (with_reducible repeat (first | apply MapIn.alloc | apply MapIn.drewN | apply MapIn.drew)); exact HM.out) hb); clear HM; have HM := nm_; clear nm_; clear HO132; clear HB; have HO132 := n0_; have HO135 := n1_; have HB := n2_; clear n0_ n1_ n2_; (try clear hb); (try clear hb2); (try clear hk); (try clear hi); (try clear ho0)))
          go_roundg k1
          case measure => have := HK1.out; omega
          case rel => exact ⟨ks ++ [t126], (y130), (t133), ⟨(by (with_reducible repeat (first | apply MapIn.alloc | apply MapIn.drewN | apply MapIn.drew)); exact HM.out)⟩, ⟨by have := HL.out; rw [Ny130.out]; simp; omega⟩, H', ⟨by have := HK1.out; omega⟩, ⟨by (with_reducible repeat (first | apply Kd.S_alloc | apply Kd.S_drewN | apply Kd.S_drew)); exact Kd.S_mono HO132.out (fun _ hk => hk.2)⟩, ⟨by (with_reducible repeat (first | apply Kd.R_alloc | apply Kd.R_drewN | apply Kd.R_drew)); exact HO135.out⟩, ⟨by repeat (first | (with_reducible first | exact HB.out | apply below_alloc | apply pw_below_drewN | apply below_drew1) | exact HB.out)⟩⟩
        · rw [if_neg c13] at H
          exact absurd H (by simp)


/-! ### impl_within: function 47 -/
def impl_within.f (a0 : Int) (a1 : Int) (a2 : Int) : Option (Bool) := if a0 ≥ a1 then (some (decide (a0 ≤ a2))) else (some false)
set_option maxHeartbeats 8000000 in
set_option maxRecDepth 100000 in
theorem impl_within.calls (a0 : Int) (a1 : Int) (a2 : Int) (r : Bool) (w : World) (h : impl_within.f a0 a1 a2 = some r) :
    Calls Tryd.prog 47 #[.int .i64 a0, .int .i64 a1, .int .i64 a2] w fun e w' => e = .returned (.bool r) ∧ Drawn0 w w' := by
  have H : (if a0 ≥ a1 then (some (decide (a0 ≤ a2))) else (some false)) = some r := h
  clear h
  by_cases c4 : a0 ≥ a1
  · rw [if_pos c4] at H
    have c4b0 : decide (a1 ≤ a0) = true := decide_eq_true c4
    clear c4
    obtain rfl := Option.some.inj H
    go_enter Tryd.func47, Tryd.ntmps47
    go_wp2
    go_ret
    exact ⟨by first | rfl | (simp; done) | (simp [*]; done), by repeat (first | exact Drawn0.refl _ | apply Drawn0.step)⟩
  · rw [if_neg c4] at H
    have c4b0 : decide (a1 ≤ a0) = false := decide_eq_false c4
    clear c4
    obtain rfl := Option.some.inj H
    go_enter Tryd.func47, Tryd.ntmps47
    go_wp2
    go_ret
    exact ⟨by first | rfl | (simp; done) | (simp [*]; done), by repeat (first | exact Drawn0.refl _ | apply Drawn0.step)⟩

/-! ### impl_CountCycling: function 25, by hand -/
def CountCycling.cb (k : Nat) (s : Int) (l : List Int) : Option Int := (impl_ringCycle.f k l).bind fun bt => if bt.2 = 0 then some (wrap64 (s + 1)) else some s
def impl_CountCycling.f (k : Nat) (a0 : Int) : Option (Int × Bool) := (impl_within.f a0 2 10).bind fun t => (if t = true then ((impl_listsOf.f CountCycling.cb k a0 1 0).bind fun r => (some (r, true))) else (some (0, false)))
theorem CountCycling.cb_mono (k : Nat) (s : Int) (l : List Int) : LeO (CountCycling.cb k s l) (CountCycling.cb (k + 1) s l) := LeO.bind (impl_ringCycle.mono _ _) (fun _ => LeO.refl _)
theorem impl_CountCycling.mono : ∀ a0 k, LeO (impl_CountCycling.f k a0) (impl_CountCycling.f (k + 1) a0) := fun a0 k => LeO.bind (LeO.refl _) (fun _ => LeO.ite (LeO.bind (impl_listsOf.mono _ CountCycling.cb_mono _ _ _ _) (fun _ => LeO.refl _)) (LeO.refl _))
set_option maxHeartbeats 8000000 in
set_option maxRecDepth 100000 in
theorem CountCycling.each (k : Nat) (s s' : Int) (b : Nat) (A : Option Addr) (c : Nat) (l : List Int) (W : World) (hG : Gl W) (hb : W.heap[b]? = some (.cells #[.int .i64 s] 3 (0, 0))) (hr : Kd.C (Kd.int .i64) W A l.length l) (hc : l.length ≤ c) (h : CountCycling.cb k s l = some s') :
    Calls Tryd.prog 51 #[.slice A l.length c, .pointer (some ⟨b, 0, none⟩)] W fun e W' => (∃ v, e = .returned v) ∧ LpStep W b s' W' := by
  obtain ⟨⟨r1, r2⟩, hA, H⟩ := Option.bind_eq_some_iff.mp h
  have HC := Aside0.mk (impl_ringCycle.calls k A c l r1 r2 W hr hc hG hA)
  have HX := Aside0.mk hb
  clear hr hc hG hA h hb
  by_cases c1 : r2 = 0
  · rw [if_pos c1] at H
    obtain rfl := Option.some.inj H
    have d1 : (r2 == 0) = true := beq_iff_eq.mpr c1
    clear H c1
    go_enter Tryd.func51, Tryd.ntmps51
    go_wp2_with (go_at_call 50; refine HC.out.mono ?_; rintro e w6 ⟨v0, rfl, ho, hb⟩; obtain ⟨A6, c6, rfl⟩ := Kd.S_slice ho; have hx := (hb.block b (lt_of_block HX.out)).trans HX.out; have hc6 := cell_of_one hx; have hf6 := free_of_one hx; have HB6 := Aside0.mk hb; clear hb ho hx)
    go_end0
    exact ⟨⟨_, rfl⟩, lpStep_store HB6.out HX.out⟩
  · rw [if_neg c1] at H
    obtain rfl := Option.some.inj H
    have d1 : (r2 == 0) = false := beq_eq_false_iff_ne.mpr c1
    clear H c1
    go_enter Tryd.func51, Tryd.ntmps51
    go_wp2_with (go_at_call 50; refine HC.out.mono ?_; rintro e w6 ⟨v0, rfl, ho, hb⟩; obtain ⟨A6, c6, rfl⟩ := Kd.S_slice ho; have HB6 := Aside0.mk hb; clear hb ho)
    go_end0
    exact ⟨⟨_, rfl⟩, lpStep_stay HB6.out HX.out⟩
set_option maxHeartbeats 8000000 in
set_option maxRecDepth 100000 in
theorem impl_CountCycling.calls (k : Nat) (a0 : Int) (r1 : Int) (r2 : Bool) (w : World) (hG : Gl w) (h : impl_CountCycling.f k a0 = some (r1, r2)) :
    Calls Tryd.prog 25 #[.int .i64 a0] w fun e w' => e = .returned (.tuple #[.int .i64 r1, .bool r2]) ∧ Below w.heap.size w w' := by
  have eg : ∀ args w, (callFunc 51 args).run Tryd.prog w = .ok (.enter 51 args) w := enters_of Tryd.func51 (by kernel_rfl) rfl
  obtain ⟨t, hA, H⟩ := Option.bind_eq_some_iff.mp h
  have HW := Aside0.mk (impl_within.calls a0 2 10 t w hA)
  have HG := Aside0.mk hG
  have EG := Aside0.mk eg
  clear hA h hG eg
  cases t with
  | false =>
    rw [if_neg (by decide)] at H
    cases H
    go_enter Tryd.func25, Tryd.ntmps25
    go_wp2_with (go_at_call 47; refine HW.out.mono ?_; rintro e w' ⟨rfl, ⟨nd, rfl⟩⟩)
    go_ret2
    exact ⟨rfl, pw_below_drewN (Below.refl _ _) _⟩
  | true =>
    rw [if_pos rfl] at H
    obtain ⟨r, hL, H⟩ := Option.bind_eq_some_iff.mp H
    cases H
    have HL := Aside0.mk hL
    clear hL
    have hcl : ∀ nd, ((w.drewN nd).alloc (.cells #[.int .i64 0] 3)).cell? ⟨w.heap.size, 0, none⟩ = some (.int .i64 0) := fun nd => cell_of_one (lp_made w _ nd)
    have hfr : ∀ nd, ((w.drewN nd).alloc (.cells #[.int .i64 0] 3)).frozen? ⟨w.heap.size, 0, none⟩ = false := fun nd => free_of_one (lp_made w _ nd)
    go_enter Tryd.func25, Tryd.ntmps25
    go_wp2_with (first | (go_at_call 47; refine HW.out.mono ?_; rintro e w' ⟨rfl, ⟨nd, rfl⟩⟩) | (go_at_call 48; refine (impl_listsOf.calls CountCycling.cb k a0 1 51 #[.pointer (some ⟨w.heap.size, 0, none⟩)] 0 r1 (LpBox w w.heap.size) _ EG.out ?hf ?hJ HL.out).mono ?_; (case hf => intro k' s s' W A c l h1 h2 h3 h4 h5; exact (CountCycling.each k' s s' w.heap.size A c l W (Gl.below HG.out h2.1) h2.2 h4 h5 h1).mono (by rintro e W' ⟨h6, h7⟩; exact ⟨h6, lpBox_step h2 h7 (Nat.le_refl _) (lp_lt _ _ _ _) h3⟩)); (case hJ => exact ⟨Nat.le_refl _, lpBox_mv (Nat.le_of_lt (lp_lt _ _ _ _)) (lp_lt _ _ _ _), lpBox_new (pw_below_drewN (Below.refl _ _) _) 0 0⟩); rintro e w8 ⟨rfl, ha⟩; have hx := ha.now.2; have hc8 := cell_of_one hx; have HB8 := Aside0.mk ha.now.1; clear ha hx))
    go_ret2
    exact ⟨rfl, HB8.out⟩

/-! ### laws_FnExactCountCycling: function 7 -/
def laws_FnExactCountCycling.f (k : Nat) (a0 : Int) : Option (Bool) := (spec_CountCycling.f k a0).bind fun bt180 => ((impl_CountCycling.f k a0).bind fun bt182 => (if bt182.1 = bt180.1 then (if (bt182.2 != bt180.2) = true then (some false) else (some true)) else (some false)))
theorem laws_FnExactCountCycling.mono : ∀ a0 k, LeO (laws_FnExactCountCycling.f k a0) (laws_FnExactCountCycling.f (k + 1) a0) := by
  intro a0 k
  unfold laws_FnExactCountCycling.f
  repeat' first
      | (with_reducible exact impl_CountCycling.mono _ _)
      | (with_reducible exact spec_CountCycling.mono _ _)
      | (with_reducible exact LeO.refl _)
      | (with_reducible exact LeO.none _)
      | (with_reducible refine LeO.ite ?_ ?_)
      | (with_reducible refine LeO.bind ?_ (fun _ => ?_))
      | exact impl_CountCycling.mono _ _
      | exact spec_CountCycling.mono _ _
      | exact LeO.none _
      | refine LeO.ite ?_ ?_
      | refine LeO.bind ?_ (fun _ => ?_)
set_option maxHeartbeats 8000000 in
set_option maxRecDepth 100000 in
theorem laws_FnExactCountCycling.calls (k : Nat) (a0 : Int) (r : Bool) (w : World) (hG : Gl w) (h : laws_FnExactCountCycling.f k a0 = some r) :
    Calls Tryd.prog 7 #[.int .i64 a0] w fun e w' => e = .returned (.bool r) ∧ Below w.heap.size w w' := by
  have HG := Aside0.mk hG
  clear hG
  have HB := Aside0.mk (Below.refl w.heap.size w)
  have H : ((spec_CountCycling.f k a0).bind fun bt180 => ((impl_CountCycling.f k a0).bind fun bt182 => (if bt182.1 = bt180.1 then (if (bt182.2 != bt180.2) = true then (some false) else (some true)) else (some false)))) = some r := h
  clear h
  replace H := Option.bind_eq_some_iff.mp H
  obtain ⟨⟨t180, t181⟩, A20, H⟩ := H
  replace H : ((impl_CountCycling.f k a0).bind fun bt182 => (if bt182.1 = t180 then (if (bt182.2 != t181) = true then (some false) else (some true)) else (some false))) = some r := H
  have A2 := Aside0.mk A20
  clear A20
  replace H := Option.bind_eq_some_iff.mp H
  obtain ⟨⟨t182, t183⟩, A30, H⟩ := H
  replace H : (if t182 = t180 then (if (t183 != t181) = true then (some false) else (some true)) else (some false)) = some r := H
  have A3 := Aside0.mk A30
  clear A30
  by_cases c4 : t182 = t180
  · rw [if_pos c4] at H
    have c4b0 : (t182 == t180) = true := beq_iff_eq.mpr c4
    have c4b1 : (t182 != t180) = false := bne_eq_false_iff_eq.mpr c4
    clear c4
    by_cases c5 : (t183 != t181) = true
    · rw [if_pos c5] at H
      have c5b0 : (t183 != t181) = true := c5
      (try (have c5b1 : decide (t183 = t181) = false := by simpa using c5))
      (try (have c5b2 : (t183 == t181) = false := by simpa using c5))
      (try (have c5b3 : ¬ (t183 = t181) := by simpa using c5))
      clear c5
      obtain rfl := Option.some.inj H
      go_enter Tryd.func7, Tryd.ntmps7
      go_wp2_with (first | ((with_reducible refine gate_callee (f := 24) rfl ?_); refine goesL_ (some 9) rfl rfl Tryd.func24 (by kernel_rfl) rfl #[.int .i64 a0] rfl (by (try simp only [List.map_toArray, List.map_cons, List.map_nil]); first | done | rfl | (simp only [List.length_drop, List.length_take]; rfl)) ?_; (with_reducible refine (spec_CountCycling.calls k a0 t180 t181 _ A2.out).mono ?_); rintro e w6 ⟨rfl, hb⟩; refine ⟨_, rfl, ?_⟩; have n0_ := Aside0.mk (below_step (by repeat (first | (with_reducible first | exact HB.out | apply below_alloc | apply pw_below_drewN | apply below_drew1) | exact HB.out)) hb); clear HB; have HB := n0_; clear n0_; (try clear hb); (try clear hb2); (try clear hk); (try clear hi)) | ((with_reducible refine gate_callee (f := 25) rfl ?_); refine goesL_ (some 14) rfl rfl Tryd.func25 (by kernel_rfl) rfl #[.int .i64 a0] rfl (by (try simp only [List.map_toArray, List.map_cons, List.map_nil]); first | done | rfl | (simp only [List.length_drop, List.length_take]; rfl)) ?_; (with_reducible refine (impl_CountCycling.calls k a0 t182 t183 _ ?side1 A3.out).mono ?_); (case side1 => exact Gl.below HG.out (by repeat (first | (with_reducible first | exact HB.out | apply below_alloc | apply pw_below_drewN | apply below_drew1) | exact HB.out))); rintro e w7 ⟨rfl, hb⟩; refine ⟨_, rfl, ?_⟩; have n0_ := Aside0.mk (below_step (by repeat (first | (with_reducible first | exact HB.out | apply below_alloc | apply pw_below_drewN | apply below_drew1) | exact HB.out)) hb); clear HB; have HB := n0_; clear n0_; (try clear hb); (try clear hb2); (try clear hk); (try clear hi)))
      go_ret
      exact ⟨by first | rfl | (simp [errW_none, errW_some] <;> rfl) | (simp [*, errW_none, errW_some] <;> rfl), by repeat (first | (with_reducible first | exact HB.out | apply below_alloc | apply pw_below_drewN | apply below_drew1) | exact HB.out)⟩
    · rw [if_neg c5] at H
      have c5b0 : (t183 != t181) = false := by simpa using c5
      (try (have c5b1 : decide (t183 = t181) = true := by simpa using c5))
      (try (have c5b2 : (t183 == t181) = true := by simpa using c5))
      clear c5
      obtain rfl := Option.some.inj H
      go_enter Tryd.func7, Tryd.ntmps7
      go_wp2_with (first | ((with_reducible refine gate_callee (f := 24) rfl ?_); refine goesL_ (some 9) rfl rfl Tryd.func24 (by kernel_rfl) rfl #[.int .i64 a0] rfl (by (try simp only [List.map_toArray, List.map_cons, List.map_nil]); first | done | rfl | (simp only [List.length_drop, List.length_take]; rfl)) ?_; (with_reducible refine (spec_CountCycling.calls k a0 t180 t181 _ A2.out).mono ?_); rintro e w8 ⟨rfl, hb⟩; refine ⟨_, rfl, ?_⟩; have n0_ := Aside0.mk (below_step (by repeat (first | (with_reducible first | exact HB.out | apply below_alloc | apply pw_below_drewN | apply below_drew1) | exact HB.out)) hb); clear HB; have HB := n0_; clear n0_; (try clear hb); (try clear hb2); (try clear hk); (try clear hi)) | ((with_reducible refine gate_callee (f := 25) rfl ?_); refine goesL_ (some 14) rfl rfl Tryd.func25 (by kernel_rfl) rfl #[.int .i64 a0] rfl (by (try simp only [List.map_toArray, List.map_cons, List.map_nil]); first | done | rfl | (simp only [List.length_drop, List.length_take]; rfl)) ?_; (with_reducible refine (impl_CountCycling.calls k a0 t182 t183 _ ?side1 A3.out).mono ?_); (case side1 => exact Gl.below HG.out (by repeat (first | (with_reducible first | exact HB.out | apply below_alloc | apply pw_below_drewN | apply below_drew1) | exact HB.out))); rintro e w9 ⟨rfl, hb⟩; refine ⟨_, rfl, ?_⟩; have n0_ := Aside0.mk (below_step (by repeat (first | (with_reducible first | exact HB.out | apply below_alloc | apply pw_below_drewN | apply below_drew1) | exact HB.out)) hb); clear HB; have HB := n0_; clear n0_; (try clear hb); (try clear hb2); (try clear hk); (try clear hi)))
      go_ret
      exact ⟨by first | rfl | (simp [errW_none, errW_some] <;> rfl) | (simp [*, errW_none, errW_some] <;> rfl), by repeat (first | (with_reducible first | exact HB.out | apply below_alloc | apply pw_below_drewN | apply below_drew1) | exact HB.out)⟩
  · rw [if_neg c4] at H
    have c4b0 : (t182 == t180) = false := beq_eq_false_iff_ne.mpr c4
    have c4b1 : (t182 != t180) = true := bne_iff_ne.mpr c4
    obtain rfl := Option.some.inj H
    go_enter Tryd.func7, Tryd.ntmps7
    go_wp2_with (first | ((with_reducible refine gate_callee (f := 24) rfl ?_); refine goesL_ (some 9) rfl rfl Tryd.func24 (by kernel_rfl) rfl #[.int .i64 a0] rfl (by (try simp only [List.map_toArray, List.map_cons, List.map_nil]); first | done | rfl | (simp only [List.length_drop, List.length_take]; rfl)) ?_; (with_reducible refine (spec_CountCycling.calls k a0 t180 t181 _ A2.out).mono ?_); rintro e w10 ⟨rfl, hb⟩; refine ⟨_, rfl, ?_⟩; have n0_ := Aside0.mk (below_step (by repeat (first | (with_reducible first | exact HB.out | apply below_alloc | apply pw_below_drewN | apply below_drew1) | exact HB.out)) hb); clear HB; have HB := n0_; clear n0_; (try clear hb); (try clear hb2); (try clear hk); (try clear hi)) | ((with_reducible refine gate_callee (f := 25) rfl ?_); refine goesL_ (some 14) rfl rfl Tryd.func25 (by kernel_rfl) rfl #[.int .i64 a0] rfl (by (try simp only [List.map_toArray, List.map_cons, List.map_nil]); first | done | rfl | (simp only [List.length_drop, List.length_take]; rfl)) ?_; (with_reducible refine (impl_CountCycling.calls k a0 t182 t183 _ ?side1 A3.out).mono ?_); (case side1 => exact Gl.below HG.out (by repeat (first | (with_reducible first | exact HB.out | apply below_alloc | apply pw_below_drewN | apply below_drew1) | exact HB.out))); rintro e w11 ⟨rfl, hb⟩; refine ⟨_, rfl, ?_⟩; have n0_ := Aside0.mk (below_step (by repeat (first | (with_reducible first | exact HB.out | apply below_alloc | apply pw_below_drewN | apply below_drew1) | exact HB.out)) hb); clear HB; have HB := n0_; clear n0_; (try clear hb); (try clear hb2); (try clear hk); (try clear hi)))
    go_ret
    exact ⟨by first | rfl | (simp [errW_none, errW_some] <;> rfl) | (simp [*, errW_none, errW_some] <;> rfl), by repeat (first | (with_reducible first | exact HB.out | apply below_alloc | apply pw_below_drewN | apply below_drew1) | exact HB.out)⟩

/-- THE ONE PURE STATEMENT of laws_FnExactCountCycling: yours. -/
def laws_FnExactCountCycling.Pure : Prop := ∀ (a0 : Int), (Lit.int .i64 a0).wf = true → ∃ k, laws_FnExactCountCycling.f k a0 = some true
theorem laws_FnExactCountCycling.walk (P : laws_FnExactCountCycling.Pure) (a0 : Int) (w : World) (w0 : (Lit.int .i64 a0).wf = true) (hG : Gl w) :
    Calls Tryd.prog 7 #[.int .i64 a0] w fun e w' => e = .returned (.bool true) ∧ Below w.heap.size w w' := by
  obtain ⟨k, h⟩ := P a0 w0
  refine (laws_FnExactCountCycling.calls k a0 true w hG h).mono ?_
  rintro e w' ⟨rfl, hd⟩
  exact ⟨rfl, hd⟩

end Go.Proofs.YteneeeepocefaaaDoor.PFnExactCountCycling
