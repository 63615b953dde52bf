-- Written by a program of this session (wip/tool/myprint.py) over the translation. Not trusted: Lean checks it.
import Derived.Test.YtffhhhkdnkdlgaaDoorPFnExactSlowestToZerox0
import Derived.Test.YtffhhhkdnkdlgaaDoorPFnExactSlowestToZerox3
namespace Go.Proofs.YtffhhhkdnkdlgaaDoor.PFnExactSlowestToZero
open Go.RowKit Go.Proofs.YtffhhhkdnkdlgaaDoorW.PrintWords Go.Proofs.YtffhhhkdnkdlgaaDoorW.PrintLast Go.Proofs.YtffhhhkdnkdlgaaDoorW.PrintMore
attribute [local go_sem] max2_int min2_int max_two min_two max_three min_three max_four min_four   -- for this text's walks alone
set_option linter.unusedVariables false
set_option linter.unusedSimpArgs false

/-! ### impl_ringCycle: function 35, by hand -/
instance decMemBytes (s : ByteArray) (ks : List ByteArray) : Decidable (s ∈ ks) := @List.instDecidableMemOfLawfulBEq ByteArray instBEqOfDecidableEq inferInstance s ks
/-- The place of a key in a list of keys. -/
def posOf (s : ByteArray) : List ByteArray → Nat
  | [] => 0
  | x :: r => if x = s then 0 else posOf s r + 1
theorem posOf_snoc_old {s : ByteArray} (y : ByteArray) : ∀ {ks : List ByteArray}, s ∈ ks → posOf s (ks ++ [y]) = posOf s ks
  | [], h => by simp at h
  | x :: r, h => by
    by_cases e : x = s
    · simp [posOf, e]
    · have : s ∈ r := by
        rcases List.mem_cons.1 h with h2 | h2
        · exact absurd h2.symm e
        · exact h2
      simp [posOf, e, posOf_snoc_old y this]
theorem posOf_snoc_new {s : ByteArray} : ∀ {ks : List ByteArray}, s ∉ ks → posOf s (ks ++ [s]) = ks.length
  | [], _ => by simp [posOf]
  | x :: r, h => by
    have h1 : x ≠ s := fun e => h (by simp [e])
    have h2 : s ∉ r := fun e => h (by simp [e])
    simp [posOf, h1, posOf_snoc_new h2]
theorem posOf_lt {s : ByteArray} : ∀ {ks : List ByteArray}, s ∈ ks → posOf s ks < ks.length
  | [], h => by simp at h
  | x :: r, h => by
    by_cases e : x = s
    · simp [posOf, e]
    · have : s ∈ r := by
        rcases List.mem_cons.1 h with h2 | h2
        · exact absurd h2.symm e
        · exact h2
      have := posOf_lt this
      simp [posOf, e]; omega
/-- Block b (of the call's own) is a map that bears the keys ks, each with its place. -/
def MapIn (W : World) (base b : Nat) (ks : List ByteArray) : Prop :=
  base ≤ b ∧ ∃ D : DataW Unit, W.ownsMap Tryd.prog 9 (plainElem Tryd.prog 3) b ks.length D ∧ (∀ s : ByteArray, Maps.has D (.string s.data.toList) = decide (s ∈ ks)) ∧ ∀ s : ByteArray, s ∈ ks → D.atKey (.string s.data.toList) (.lit (.int .i64 0)) = .lit (.int .i64 (posOf s ks : Int))
theorem MapIn.keep {W W1 : World} {base b : Nat} {ks : List ByteArray} (h : MapIn W base b ks) (e : W1.heap[b]? = W.heap[b]?) : MapIn W1 base b ks := by
  obtain ⟨h1, D, ⟨es, clock, hb, r⟩, h3⟩ := h
  exact ⟨h1, D, ⟨es, clock, e.trans hb, r⟩, h3⟩
theorem MapIn.lt {W : World} {base b : Nat} {ks : List ByteArray} (h : MapIn W base b ks) : b < W.heap.size := by
  obtain ⟨h1, D, h2, h3⟩ := h
  exact h2.lt
theorem MapIn.isMap {W : World} {base b : Nat} {ks : List ByteArray} (h : MapIn W base b ks) : ∃ es clock, W.heap[b]? = some (.map es clock) := by
  obtain ⟨h1, D, ⟨es, clock, hb, r⟩, h3⟩ := h
  exact ⟨es, clock, hb⟩
theorem MapIn.below {W W1 : World} {base b : Nat} {ks : List ByteArray} (h : MapIn W base b ks) (hb : Below W.heap.size W W1) : MapIn W1 base b ks := h.keep (hb.block b h.lt)
theorem MapIn.alloc {W : World} {base b : Nat} {ks : List ByteArray} (h : MapIn W base b ks) (o : Obj) : MapIn (W.alloc o) base b ks := h.below (below_alloc (Below.refl _ _) o)
theorem MapIn.drew {W : World} {base b : Nat} {ks : List ByteArray} (h : MapIn W base b ks) : MapIn W.drew base b ks := h.below (below_drew (Below.refl _ _))
theorem MapIn.drewN {W : World} {base b : Nat} {ks : List ByteArray} (h : MapIn W base b ks) (m : Nat) : MapIn (W.drewN m) base b ks := h.below (pw_below_drewN (Below.refl _ _) m)
theorem MapIn.grownS {α : Type} {d : Kd α} {e : Nat} {W W1 : World} {B base b : Nat} {ok : Nat → Prop} {v : Value} {xs : List α} {ks : List ByteArray} (h : MapIn W base b ks) (hS : Kd.S d e W B ok v xs) (hg : W.grownBy W1 v.ownBlock) : MapIn W1 base b ks := by
  refine h.keep (hg.block b h.lt fun e => ?_)
  obtain ⟨es, clock, hm⟩ := h.isMap
  obtain ⟨cells, hc⟩ := Kd.S_typed hS b e.symm
  rw [hm] at hc
  cases hc
theorem S_map {α : Type} {d : Kd α} {e : Nat} {W W1 : World} {B base b : Nat} {ok : Nat → Prop} {v : Value} {xs : List α} {ks : List ByteArray} (h : Kd.S d e W B ok v xs) (hm : MapIn W base b ks) (hg : W.grownBy W1 (some b)) : Kd.S d e W1 B ok v xs := by
  refine Kd.S_mono (Kd.S_step (Kd.S_bound h) (fun k hk hlt => hg.block k hlt fun e => ?_)) (fun _ hk => hk.1)
  obtain ⟨es, clock, hb⟩ := hm.isMap
  obtain ⟨_, _, _, q, _, cells, hc⟩ := hk
  cases e
  rw [hb] at hc
  cases hc
theorem R_map {α : Type} {d : Kd α} {e : Nat} {W W1 : World} {B base b : Nat} {ok : Nat → Prop} {v : Value} {xs : List α} {ks : List ByteArray} (h : Kd.R d e W B ok v xs) (hm : MapIn W base b ks) (hg : W.grownBy W1 (some b)) : Kd.R d e W1 B ok v xs := by
  refine Kd.R_mono (Kd.R_step (Kd.R_bound h) (fun k hk hlt => hg.block k hlt fun e => ?_)) (fun _ hk => hk.1)
  obtain ⟨es, clock, hb⟩ := hm.isMap
  obtain ⟨_, _, _, q, _, cells, hc⟩ := hk
  cases e
  rw [hb] at hc
  cases hc
theorem zeroInt_ (w : World) : (zeroValue 3).run Tryd.prog w = .ok (.int .i64 0) w := by kernel_rfl
section
variable {ops : Array Oper} {rest : List Oper} {o : Oper} {a : Act} {Q : Exit → Act → World → Prop} {W : World}
theorem gate_map {t : TypeId} {m x v : Operand} (_ho : o.op = .mapUpdate t m x v) (h : wpList Tryd.prog ops Q (o :: rest) a W) : wpList Tryd.prog ops Q (o :: rest) a W := h
theorem makeMap_ (hg : o.guard = none) {t : TypeId} (hop : o.op = .makeMap t none) {base : Nat} (hbase : base ≤ W.heap.size) (h : ∀ b W1, MapIn W1 base b [] → Below W.heap.size W W1 → wpList Tryd.prog ops Q rest (a.put o.dst (.map (some b))) W1) : wpList Tryd.prog ops Q (o :: rest) a W := by
  refine wpList_plain hg fun K' hK' => ?_
  have hr := @run_makeMap Tryd.prog t W
  unfold Oper.wp
  simp [execOp, hop, hr, Result.andThen]
  refine hK' _ _ (h _ _ ⟨hbase, .map [], World.ownsMap_made _ _ _ _, fun s => by simp [Maps.has], fun s hs => by simp at hs⟩ (below_alloc (Below.refl _ _) _))
theorem look_hit_ (hg : o.guard = none) {m x : Operand} (hop : o.op = .lookup 53 m x true) {base b : Nat} {ks : List ByteArray} {s : ByteArray} (hM : MapIn W base b ks) (hz : s.size ≤ 140737488355328) (hs : s ∈ ks) (hm : a.eval m = .map (some b)) (hx : a.eval x = .string s)
    (h : wpList Tryd.prog ops Q rest (a.put o.dst (.tuple #[.int .i64 (posOf s ks : Int), .bool true])) W) : wpList Tryd.prog ops Q (o :: rest) a W := by
  refine wpList_plain hg fun K' hK' => ?_
  obtain ⟨h1, D, h2, h3, h4⟩ := hM
  have hz' : s.size ≤ maxLen := Nat.le_trans hz (by decide)
  obtain ⟨v, ps, hrun, hv⟩ := h2.look_ok (Maps.string_keyed Tryd.underlying9) Tryd.underlying53 (z := .int .i64 0) (zeroInt_ W) (plainElem_int Tryd.underlying3 (by decide)) (WideMaps.keyOf_string_mk Tryd.underlying9 hz')
  rw [h4 s hs] at hv
  obtain ⟨c, rfl, hc, _⟩ := plainElem_int_inv Tryd.underlying3 hv
  injection hc with hc _
  injection hc with hc
  injection hc with _ hc
  rw [h3 s, decide_eq_true hs] at hrun
  subst hc
  unfold Oper.wp
  simp [execOp, hop, hm, hx, hrun, Result.andThen]
  exact hK' _ _ h
theorem look_miss_ (hg : o.guard = none) {m x : Operand} (hop : o.op = .lookup 53 m x true) {base b : Nat} {ks : List ByteArray} {s : ByteArray} (hM : MapIn W base b ks) (hz : s.size ≤ 140737488355328) (hs : s ∉ ks) (hm : a.eval m = .map (some b)) (hx : a.eval x = .string s)
    (h : ∀ c : Int, wpList Tryd.prog ops Q rest (a.put o.dst (.tuple #[.int .i64 c, .bool false])) W) : wpList Tryd.prog ops Q (o :: rest) a W := by
  refine wpList_plain hg fun K' hK' => ?_
  obtain ⟨h1, D, h2, h3, h4⟩ := hM
  have hz' : s.size ≤ maxLen := Nat.le_trans hz (by decide)
  obtain ⟨v, ps, hrun, hv⟩ := h2.look_ok (Maps.string_keyed Tryd.underlying9) Tryd.underlying53 (z := .int .i64 0) (zeroInt_ W) (plainElem_int Tryd.underlying3 (by decide)) (WideMaps.keyOf_string_mk Tryd.underlying9 hz')
  obtain ⟨c, rfl, hc, _⟩ := plainElem_int_inv Tryd.underlying3 hv
  rw [h3 s, decide_eq_false hs] at hrun
  unfold Oper.wp
  simp [execOp, hop, hm, hx, hrun, Result.andThen]
  exact hK' _ _ (h c)
theorem put_map_ (hg : o.guard = none) {m x v : Operand} (hop : o.op = .mapUpdate 53 m x v) {base b : Nat} {ks : List ByteArray} {s : ByteArray} {n : Int} (hM : MapIn W base b ks) (hz : s.size ≤ 140737488355328) (hs : s ∉ ks) (hn : n = ks.length) (hl : ks.length < 5864062014805)
    (hm : a.eval m = .map (some b)) (hx : a.eval x = .string s) (hv : a.eval v = .int .i64 n)
    (h : ∀ W1, MapIn W1 base b (ks ++ [s]) → W.grownBy W1 (some b) → wpList Tryd.prog ops Q rest (a.put o.dst undef) W1) : wpList Tryd.prog ops Q (o :: rest) a W := by
  subst hn
  obtain ⟨h1, D, h2, h3, h4⟩ := hM
  have hz' : s.size ≤ maxLen := Nat.le_trans hz (by decide)
  have hw : (Lit.int .i64 (ks.length : Int)).wf = true := by simp [Lit.wf, IntKind.min, IntKind.max, IntKind.bits, IntKind.signed]; omega
  refine wpList_mapUpdate_own W hg m x v _ hop _ _ (Maps.string_keyed Tryd.underlying9) Tryd.underlying53 _ b ks.length D hm h2 (Nat.lt_trans hl (by decide)) _ _ _ hx hv (WideMaps.keyOf_string_mk Tryd.underlying9 hz') _ _ (plainElem_int Tryd.underlying3 hw) ?_
  intro W1 o1 g1
  have hkl : WideAt.IsKeyLit (.string s.data.toList) := ?hkl
  refine h W1 ⟨h1, _, by rw [List.length_append]; exact o1, fun y => ?_, fun y hy => ?_⟩ g1
  case hkl => first | trivial | exact ⟨⟩ | (simp [WideAt.IsKeyLit]; done)
  · by_cases e : y = s
    · subst e; rw [Maps.has_put_same h2.isMap hkl]; simp
    · have e2 : (Lit.string y.data.toList) ≠ .string s.data.toList := fun hh => e (by
        injection hh with hh
        cases y; cases s; simp_all [Array.toList_inj])
      rw [Maps.has_put_other e2, h3]; simp [e]
  · by_cases e : y = s
    · subst e; rw [Maps.atKey_put_same h2.isMap hkl, posOf_snoc_new hs]
    · have e2 : (Lit.string y.data.toList) ≠ .string s.data.toList := fun hh => e (by
        injection hh with hh
        cases y; cases s; simp_all [Array.toList_inj])
      have hy2 : y ∈ ks := by
        rcases List.mem_append.1 hy with h' | h'
        · exact h'
        · exact absurd (List.mem_singleton.1 h') e
      rw [Maps.atKey_put_other e2, h4 y hy2, posOf_snoc_old s hy2]
end
def impl_ringCycle.l0 : Nat → List ByteArray → List (List Int) → List Int → Option ((List (List Int)) × Int)
  | 0, _, _, _ => none
  | k + 1, ks, x5, x6 => (impl_joined.f k x6 (⟨#[45]⟩ : ByteArray)).bind fun t126 => (if t126.size ≤ 140737488355328 then (if t126 ∈ ks then (some (x5, (posOf t126 ks : Int))) else (if x5.length < 5864062014805 then ((impl_ringStep.f k x6).bind fun t133 => (impl_ringCycle.l0 k (ks ++ [t126]) (x5 ++ [x6]) t133)) else (none))) else (none))
def impl_ringCycle.f (k : Nat) (l0 : List Int) : Option ((List (List Int)) × Int) := (slices_Clone_int_int.f l0).bind fun t123 => (impl_ringCycle.l0 k [] (([] : List (List Int))) t123)
theorem impl_ringCycle.mono_l : ∀ k, (∀ y0 y1 y2, LeO (impl_ringCycle.l0 k y0 y1 y2) (impl_ringCycle.l0 (k + 1) y0 y1 y2))
  | 0 => fun _ _ _ r h => by simp [impl_ringCycle.l0] at h
  | k + 1 => by
    have ih0 := impl_ringCycle.mono_l k
    · intro y0 y1 y2
      unfold impl_ringCycle.l0
      repeat' first
      | (with_reducible exact ih0 _ _ _)
      | (with_reducible exact impl_joined.mono _ _ _)
      | (with_reducible exact impl_ringStep.mono _ _)
      | (with_reducible exact LeO.refl _)
      | (with_reducible exact LeO.none _)
      | (with_reducible refine LeO.ite ?_ ?_)
      | (with_reducible refine LeO.bind ?_ (fun _ => ?_))
      | exact ih0 _ _ _
      | exact impl_joined.mono _ _ _
      | exact impl_ringStep.mono _ _
      | exact LeO.none _
      | refine LeO.ite ?_ ?_
      | refine LeO.bind ?_ (fun _ => ?_)
theorem impl_ringCycle.mono : ∀ a0 k, LeO (impl_ringCycle.f k a0) (impl_ringCycle.f (k + 1) a0) := by
  intro a0 k
  have ih0 := impl_ringCycle.mono_l k
  unfold impl_ringCycle.f
  repeat' first
      | (with_reducible exact ih0 _ _ _)
      | (with_reducible exact impl_joined.mono _ _ _)
      | (with_reducible exact impl_ringStep.mono _ _)
      | (with_reducible exact LeO.refl _)
      | (with_reducible exact LeO.none _)
      | (with_reducible refine LeO.ite ?_ ?_)
      | (with_reducible refine LeO.bind ?_ (fun _ => ?_))
      | exact ih0 _ _ _
      | exact impl_joined.mono _ _ _
      | exact impl_ringStep.mono _ _
      | exact LeO.none _
      | refine LeO.ite ?_ ?_
      | refine LeO.bind ?_ (fun _ => ?_)
set_option maxHeartbeats 8000000 in
set_option maxRecDepth 100000 in
theorem impl_ringCycle.calls (k : Nat) (A0 : Option Addr) (c0 : Nat) (l0 : List Int) (r1 : List (List Int)) (r2 : Int) (w : World) (hr0 : Kd.C (Kd.int .i64) w A0 l0.length l0) (hc0 : l0.length ≤ c0) (hG : Gl w) (h : impl_ringCycle.f k l0 = some (r1, r2)) :
    Calls Tryd.prog 35 #[.slice A0 l0.length c0] w fun e w' => ∃ v0_ : Value, e = .returned (.tuple #[v0_, .int .i64 r2]) ∧ Kd.S (Kd.slice 3 (Kd.int .i64)) 22 w' w.heap.size (fun _ => True) v0_ r1 ∧ Below w.heap.size w w' := by
  have HR0 := Aside0.mk hr0
  have HC0 := Aside0.mk hc0
  clear hr0 hc0
  have HG := Aside0.mk hG
  clear hG
  have HB := Aside0.mk (Below.refl w.heap.size w)
  have H : ((slices_Clone_int_int.f l0).bind fun t123 => (impl_ringCycle.l0 k [] (([] : List (List Int))) t123)) = some (r1, r2) := h
  clear h
  obtain ⟨y120, hy120⟩ : ∃ y_ : List (List Int), y_ = (([] : List (List Int))) := ⟨_, rfl⟩
  replace H : ((slices_Clone_int_int.f l0).bind fun t123 => (impl_ringCycle.l0 k [] y120 t123)) = some (r1, r2) := by first | (rw [hy120]; with_reducible exact H) | (have H2_ := (Option.bind_some _ _).symm.trans H; rw [hy120]; with_reducible exact H2_) | (have H2_ := (Option.bind_some _ _).symm.trans H; with_reducible exact H2_) | with_reducible exact H | (rw [hy120]; exact H) | exact H
  have Ny120 := Aside0.mk hy120
  clear hy120
  replace H := Option.bind_eq_some_iff.mp H
  obtain ⟨t123, A30, H⟩ := H
  replace H : (impl_ringCycle.l0 k [] y120 t123) = some (r1, r2) := H
  have A3 := Aside0.mk A30
  clear A30
  have H' := Aside0.mk H
  clear H
  go_enter Tryd.func35, Tryd.ntmps35
  go_wp2_with (first | ((with_reducible refine gate_dst (N := 10) rfl ?_); refine makeMap_ rfl rfl (base := w.heap.size) (below_size (by repeat (first | (with_reducible first | exact HB.out | apply below_alloc | apply pw_below_drewN | apply below_drew1) | exact HB.out))) ?_; intro bm w2 hm hb; have n0_ := Aside0.mk (below_step (by repeat (first | (with_reducible first | exact HB.out | apply below_alloc | apply pw_below_drewN | apply below_drew1) | exact HB.out)) hb); have n1_ := Aside0.mk hm; clear HB; have HB := n0_; have HM := n1_; clear n0_ n1_; clear hm hb) | ((with_reducible refine gate_dst (N := 11) rfl ?_); refine Kd.S_lit (Kd.slice 3 (Kd.int .i64)) _ 22 ?hg (N := 11) ?hd (xs := ([] : List (List Int))) (inner := []) (ok := fun _ => True) (okp := fun _ => True) ?hr ?hp (fun _ hk => hk) trivial (Below.refl _ _) (Nat.le_refl _) (by simp) ?_; (case hd => rfl); (case hg => rfl); (case hr => first | (go_simp; done) | (go_simp; rfl)); (case hp => exact (Reps.none _ _)); intro v121 w4 ho5 hb hg_ hnew_; clear hg_ hnew_; (first | rw [← Ny120.out] at ho5 | (simp only [Int.reduceToNat] at ho5; rw [← Ny120.out] at ho5)); have n0_ := Aside0.mk (Kd.S_lower ho5 (below_size (by repeat (first | (with_reducible first | exact HB.out | apply below_alloc | apply pw_below_drewN | apply below_drew1) | exact HB.out)))); have n1_ := Aside0.mk (below_step (by repeat (first | (with_reducible first | exact HB.out | apply below_alloc | apply pw_below_drewN | apply below_drew1) | exact HB.out)) hb); clear HB; have nm_ := Aside0.mk (MapIn.below (by (with_reducible repeat (first | apply MapIn.alloc | apply MapIn.drewN | apply MapIn.drew)); exact HM.out) hb); clear HM; have HM := nm_; clear nm_; have HO122 := n0_; have HB := n1_; clear n0_ n1_; clear hb ho5) | ((with_reducible refine gate_callee (f := 47) rfl ?_); refine goesL_ (some 13) rfl rfl Tryd.func47 (by kernel_rfl) rfl #[.slice A0 l0.length c0] rfl (by (try simp only [List.map_toArray, List.map_cons, List.map_nil]); first | done | rfl | (simp only [List.length_drop, List.length_take]; rfl)) ?_; (with_reducible refine (slices_Clone_int_int.calls _ _ l0 t123 _ ?side1 ?side2 A3.out).mono ?_); (case side1 => repeat (first | exact (Kd.C_below HR0.out HB.out) | (with_reducible refine Kd.C_alloc ?_ _) | (with_reducible refine Kd.C_drewN ?_ _) | (with_reducible refine Kd.C_drew ?_))); (case side2 => exact HC0.out); rintro e w6 ⟨v124, rfl, ho0, hb⟩; refine ⟨_, rfl, ?_⟩; have n0_ := Aside0.mk (Kd.S_elder' (by (with_reducible repeat (first | apply Kd.S_alloc | apply Kd.S_drewN | apply Kd.S_drew)); exact HO122.out) (Kd.R_base ho0) hb); have n1_ := Aside0.mk (Kd.R_lower ho0 (below_size (by repeat (first | (with_reducible first | exact HB.out | apply below_alloc | apply pw_below_drewN | apply below_drew1) | exact HB.out)))); have n2_ := Aside0.mk (below_step (by repeat (first | (with_reducible first | exact HB.out | apply below_alloc | apply pw_below_drewN | apply below_drew1) | exact HB.out)) hb); have nm_ := Aside0.mk (MapIn.below (by (with_reducible repeat (first | apply MapIn.alloc | apply MapIn.drewN | apply MapIn.drew)); exact HM.out) hb); clear HM; have HM := nm_; clear nm_; clear HO122; clear HB; have HO122 := n0_; have HO125 := n1_; have HB := n2_; clear n0_ n1_ n2_; (try clear hb); (try clear hb2); (try clear hk); (try clear hi); (try clear ho0)))
  go_loopg [5, 6] k (fun kq v5 v6 w' => ∃ (ks : List ByteArray) (x5_1 : List (List Int)) (x6_1 : List Int), Aside0 (MapIn w' w.heap.size bm ks) ∧ Aside0 (ks.length = x5_1.length) ∧ Aside0 (impl_ringCycle.l0 kq ks x5_1 x6_1 = some (r1, r2)) ∧ Aside0 (kq ≤ k) ∧ Aside0 (Kd.S (Kd.slice 3 (Kd.int .i64)) 22 w' w.heap.size (fun k_ => some k_ ≠ (v6 : Value).ownBlock) v5 x5_1) ∧ Aside0 (Kd.R (Kd.int .i64) 3 w' w.heap.size (fun _ => True) v6 x6_1) ∧ Aside0 (Below w.heap.size w w'))
  case atStart => exact ⟨[], (y120), (t123), ⟨(by (with_reducible repeat (first | apply MapIn.alloc | apply MapIn.drewN | apply MapIn.drew)); exact HM.out)⟩, ⟨by rw [Ny120.out]; rfl⟩, H', ⟨Nat.le_refl _⟩, ⟨by (with_reducible repeat (first | apply Kd.S_alloc | apply Kd.S_drewN | apply Kd.S_drew)); exact Kd.S_mono HO122.out (fun _ hk => hk.2)⟩, ⟨by (with_reducible repeat (first | apply Kd.R_alloc | apply Kd.R_drewN | apply Kd.R_drew)); exact HO125.out⟩, ⟨by repeat (first | (with_reducible first | exact HB.out | apply below_alloc | apply pw_below_drewN | apply below_drew1) | exact HB.out)⟩⟩
  case round =>
    clear H'
    try clear p2
    try clear c5
    try clear c6
    clear HM
    obtain ⟨ks, x5_1, x6_1, HM, HL, HA, HK1, HO_5, HO_6, HB⟩ := hrel
    cases gk with
    | zero => exact absurd HA.out (by simp [impl_ringCycle.l0])
    | succ k1 =>
      have H := HA.out
      clear HA
      simp only [impl_ringCycle.l0] at H
      replace H := Option.bind_eq_some_iff.mp H
      obtain ⟨t126, A70, H⟩ := H
      replace H : (if t126.size ≤ 140737488355328 then (if t126 ∈ ks then (some (x5_1, (posOf t126 ks : Int))) else (if x5_1.length < 5864062014805 then ((impl_ringStep.f k1 x6_1).bind fun t133 => (impl_ringCycle.l0 k1 (ks ++ [t126]) (x5_1 ++ [x6_1]) t133)) else (none))) else (none)) = some (r1, r2) := H
      have A7 := Aside0.mk A70
      clear A70
      by_cases cz : t126.size ≤ 140737488355328
      case neg => rw [if_neg cz] at H; exact absurd H (by simp)
      rw [if_pos cz] at H
      have CZ := Aside0.mk cz
      clear cz
      by_cases c9 : t126 ∈ ks
      · rw [if_pos c9] at H
        have C9 := Aside0.mk c9
        clear c9
        simp only [Option.some.injEq, Prod.mk.injEq] at H
        obtain ⟨rfl, rfl⟩ := H
        obtain ⟨Ao10, co10, eo10⟩ := Kd.R_slice HO_6.out
        subst eo10
        go_wp2_with (first | ((with_reducible refine gate_callee (f := 52) rfl ?_); refine goesL_ (some 17) rfl rfl Tryd.func52 (by kernel_rfl) rfl #[.slice Ao10 x6_1.length co10, .string (⟨#[45]⟩ : ByteArray)] rfl (by (try simp only [List.map_toArray, List.map_cons, List.map_nil]); first | done | rfl | (simp only [List.length_drop, List.length_take]; rfl)) ?_; (with_reducible refine (impl_joined.calls k1 _ _ x6_1 (⟨#[45]⟩ : ByteArray) t126 _ ?side1 ?side2 ?side3 A7.out).mono ?_); (case side1 => repeat (first | exact (Kd.R_reads' HO_6.out).2.2 | (with_reducible refine Kd.C_alloc ?_ _) | (with_reducible refine Kd.C_drewN ?_ _) | (with_reducible refine Kd.C_drew ?_))); (case side2 => exact (Kd.R_reads' HO_6.out).2.1); (case side3 => exact Gl.below HG.out (by repeat (first | (with_reducible first | exact HB.out | apply below_alloc | apply pw_below_drewN | apply below_drew1) | exact HB.out))); rintro e w11 ⟨rfl, hb⟩; refine ⟨_, rfl, ?_⟩; have n0_ := Aside0.mk (Kd.S_below (by (with_reducible repeat (first | apply Kd.S_alloc | apply Kd.S_drewN | apply Kd.S_drew)); exact HO_5.out) hb); have n1_ := Aside0.mk (Kd.R_below (by (with_reducible repeat (first | apply Kd.R_alloc | apply Kd.R_drewN | apply Kd.R_drew)); exact HO_6.out) hb); have n2_ := Aside0.mk (below_step (by repeat (first | (with_reducible first | exact HB.out | apply below_alloc | apply pw_below_drewN | apply below_drew1) | exact HB.out)) hb); have nm_ := Aside0.mk (MapIn.below (by (with_reducible repeat (first | apply MapIn.alloc | apply MapIn.drewN | apply MapIn.drew)); exact HM.out) hb); clear HM; have HM := nm_; clear nm_; clear HO_5; clear HO_6; clear HB; have HO_5 := n0_; have HO_6 := n1_; have HB := n2_; clear n0_ n1_ n2_; (try clear hb); (try clear hb2); (try clear hk); (try clear hi)) | ((with_reducible refine gate_dst (N := 21) rfl ?_); refine look_hit_ rfl rfl (by (with_reducible repeat (first | apply MapIn.alloc | apply MapIn.drewN | apply MapIn.drew)); exact HM.out) CZ.out C9.out rfl rfl ?_))
        go_ret2
        exact ⟨_, by first | rfl | (simp [errW_none, errW_some] <;> rfl) | (simp [*, errW_none, errW_some] <;> rfl), by (with_reducible repeat (first | apply Kd.S_alloc | apply Kd.S_drewN | apply Kd.S_drew)); exact Kd.S_mono HO_5.out (fun _ hk => trivial), by repeat (first | (with_reducible first | exact HB.out | apply below_alloc | apply pw_below_drewN | apply below_drew1) | exact HB.out)⟩
      · rw [if_neg c9] at H
        have C9 := Aside0.mk c9
        clear c9
        by_cases c13 : x5_1.length < 5864062014805
        · rw [if_pos c13] at H
          have LMc13 := Aside0.mk c13
          clear c13
          obtain ⟨y130, hy130⟩ : ∃ y_ : List (List Int), y_ = (x5_1 ++ [x6_1]) := ⟨_, rfl⟩
          replace H : ((impl_ringStep.f k1 x6_1).bind fun t133 => (impl_ringCycle.l0 k1 (ks ++ [t126]) y130 t133)) = some (r1, r2) := by first | (rw [hy130]; with_reducible exact H) | (have H2_ := (Option.bind_some _ _).symm.trans H; rw [hy130]; with_reducible exact H2_) | (have H2_ := (Option.bind_some _ _).symm.trans H; with_reducible exact H2_) | with_reducible exact H | (rw [hy130]; exact H) | exact H
          have Ny130 := Aside0.mk hy130
          clear hy130
          replace H := Option.bind_eq_some_iff.mp H
          obtain ⟨t133, A140, H⟩ := H
          replace H : (impl_ringCycle.l0 k1 (ks ++ [t126]) y130 t133) = some (r1, r2) := H
          have A14 := Aside0.mk A140
          clear A140
          have H' := Aside0.mk H
          clear H
          obtain ⟨Ao15, co15, eo15⟩ := Kd.R_slice HO_6.out
          subst eo15
          go_wp2_with (first | ((with_reducible refine gate_callee (f := 52) rfl ?_); refine goesL_ (some 17) rfl rfl Tryd.func52 (by kernel_rfl) rfl #[.slice Ao15 x6_1.length co15, .string (⟨#[45]⟩ : ByteArray)] rfl (by (try simp only [List.map_toArray, List.map_cons, List.map_nil]); first | done | rfl | (simp only [List.length_drop, List.length_take]; rfl)) ?_; (with_reducible refine (impl_joined.calls k1 _ _ x6_1 (⟨#[45]⟩ : ByteArray) t126 _ ?side1 ?side2 ?side3 A7.out).mono ?_); (case side1 => repeat (first | exact (Kd.R_reads' HO_6.out).2.2 | (with_reducible refine Kd.C_alloc ?_ _) | (with_reducible refine Kd.C_drewN ?_ _) | (with_reducible refine Kd.C_drew ?_))); (case side2 => exact (Kd.R_reads' HO_6.out).2.1); (case side3 => exact Gl.below HG.out (by repeat (first | (with_reducible first | exact HB.out | apply below_alloc | apply pw_below_drewN | apply below_drew1) | exact HB.out))); rintro e w16 ⟨rfl, hb⟩; refine ⟨_, rfl, ?_⟩; have n0_ := Aside0.mk (Kd.S_below (by (with_reducible repeat (first | apply Kd.S_alloc | apply Kd.S_drewN | apply Kd.S_drew)); exact HO_5.out) hb); have n1_ := Aside0.mk (Kd.R_below (by (with_reducible repeat (first | apply Kd.R_alloc | apply Kd.R_drewN | apply Kd.R_drew)); exact HO_6.out) hb); have n2_ := Aside0.mk (below_step (by repeat (first | (with_reducible first | exact HB.out | apply below_alloc | apply pw_below_drewN | apply below_drew1) | exact HB.out)) hb); have nm_ := Aside0.mk (MapIn.below (by (with_reducible repeat (first | apply MapIn.alloc | apply MapIn.drewN | apply MapIn.drew)); exact HM.out) hb); clear HM; have HM := nm_; clear nm_; clear HO_5; clear HO_6; clear HB; have HO_5 := n0_; have HO_6 := n1_; have HB := n2_; clear n0_ n1_ n2_; (try clear hb); (try clear hb2); (try clear hk); (try clear hi)) | ((with_reducible refine gate_dst (N := 21) rfl ?_); refine look_miss_ rfl rfl (by (with_reducible repeat (first | apply MapIn.alloc | apply MapIn.drewN | apply MapIn.drew)); exact HM.out) CZ.out C9.out rfl rfl ?_; intro cm_; obtain ⟨Ao17, co17, eo17⟩ := Kd.S_slice HO_5.out; subst eo17) | ((with_reducible refine gate_map rfl ?_); refine put_map_ rfl rfl (by (with_reducible repeat (first | apply MapIn.alloc | apply MapIn.drewN | apply MapIn.drew)); exact HM.out) CZ.out C9.out (by have := HL.out; omega) (by have := HL.out; have := LMc13.out; omega) rfl rfl rfl ?_; intro w17 hm hg; have n0_ := Aside0.mk (Below.grown (by repeat (first | (with_reducible first | exact HB.out | apply below_alloc | apply pw_below_drewN | apply below_drew1) | exact HB.out)) hg (below_size (by repeat (first | (with_reducible first | exact HB.out | apply below_alloc | apply pw_below_drewN | apply below_drew1) | exact HB.out))) (by rintro k_ e_; cases e_; exact HM.out.1)); have n1_ := Aside0.mk (S_map (by (with_reducible repeat (first | apply Kd.S_alloc | apply Kd.S_drewN | apply Kd.S_drew)); exact HO_5.out) (by (with_reducible repeat (first | apply MapIn.alloc | apply MapIn.drewN | apply MapIn.drew)); exact HM.out) hg); have n2_ := Aside0.mk (R_map (by (with_reducible repeat (first | apply Kd.R_alloc | apply Kd.R_drewN | apply Kd.R_drew)); exact HO_6.out) (by (with_reducible repeat (first | apply MapIn.alloc | apply MapIn.drewN | apply MapIn.drew)); exact HM.out) hg); have nm_ := Aside0.mk hm; clear HM HB HO_5 HO_6; have HM := nm_; have HB := n0_; have HO_5 := n1_; have HO_6 := n2_; clear nm_ n0_ n1_ n2_; clear hm hg) | ((with_reducible refine gate_builtin (b := .append) (xs := #[.tmp 31, .tmp 33]) rfl ?_); at_builtin; refine Kd.S_append (Kd.slice 3 (Kd.int .i64)) (w0 := w) w.heap.size rfl (.tmp 31) (.tmp 33) 37 22 (.slice none 0 0) 24 rfl Tryd.underlying37 info22 rfl (by decide) (by omega) (.slice Ao17 x5_1.length co17) x5_1 x6_1 [.slice Ao15 x6_1.length co15] (fun _ => True) (fun k_ => some k_ = (.slice Ao15 x6_1.length co15 : Value).ownBlock) rfl rfl ?aP (fun k_ hk_ => ((Kd.R_mono (ok' := fun k_ => ((fun _ => True)) k_ ∧ some k_ ≠ (.slice Ao17 x5_1.length co17 : Value).ownBlock) (Kd.R_apart' (HO_6.out) (Kd.S_typed HO_5.out) (by decide)) (fun k_ hk => ⟨trivial, hk.2⟩))).1 k_ hk_.symm) ?aF ?aO ?aB ?aS ?aL ?_; (case aP => exact Kd.M_row (Kd.R_mono (Kd.R_tight rfl (Kd.R_mono (ok' := fun k_ => ((fun _ => True)) k_ ∧ some k_ ≠ (.slice Ao17 x5_1.length co17 : Value).ownBlock) (Kd.R_apart' (HO_6.out) (Kd.S_typed HO_5.out) (by decide)) (fun k_ hk => ⟨trivial, hk.2⟩))) (fun _ h_ => h_))); (case aB => exact (by repeat (first | (with_reducible first | exact HB.out | apply below_alloc | apply pw_below_drewN | apply below_drew1) | exact HB.out))); (case aF => exact (fun _ _ => trivial)); (case aO => exact (by (with_reducible repeat (first | apply Kd.S_alloc | apply Kd.S_drewN | apply Kd.S_drew)); exact Kd.S_mono HO_5.out (fun k_ hk => ⟨trivial, fun e_ => hk e_⟩))); (case aS => exact (below_size (by repeat (first | (with_reducible first | exact HB.out | apply below_alloc | apply pw_below_drewN | apply below_drew1) | exact HB.out)))); (case aL => have := LMc13.out; omega); intro v131 w18 ho hb hg hat; rw [← Ny130.out] at ho; have nm_ := Aside0.mk (MapIn.grownS (by (with_reducible repeat (first | apply MapIn.alloc | apply MapIn.drewN | apply MapIn.drew)); exact HM.out) HO_5.out hg); clear HM; have HM := nm_; clear nm_; have n6_ := Aside0.mk (Kd.R_over' HO_6.out (Kd.S_typed HO_5.out) (by decide) hg); have n0_ := Aside0.mk (hb); have n1_ := Aside0.mk (ho); clear HB; clear HO_5; clear HO_6; have HO_6 := n6_; clear n6_; have HB := n0_; have HO132 := n1_; clear n0_ n1_; clear ho hb hg hat) | ((with_reducible refine gate_callee (f := 51) rfl ?_); refine goesL_ (some 15) rfl rfl Tryd.func51 (by kernel_rfl) rfl #[.slice Ao15 x6_1.length co15] rfl (by (try simp only [List.map_toArray, List.map_cons, List.map_nil]); first | done | rfl | (simp only [List.length_drop, List.length_take]; rfl)) ?_; (with_reducible refine (impl_ringStep.calls k1 _ _ x6_1 t133 _ ?side1 ?side2 A14.out).mono ?_); (case side1 => repeat (first | exact (Kd.R_reads' HO_6.out).2.2 | (with_reducible refine Kd.C_alloc ?_ _) | (with_reducible refine Kd.C_drewN ?_ _) | (with_reducible refine Kd.C_drew ?_))); (case side2 => exact (Kd.R_reads' HO_6.out).2.1); rintro e w19 ⟨v134, rfl, ho0, hb⟩; refine ⟨_, rfl, ?_⟩; have n0_ := Aside0.mk (Kd.S_elder' (by (with_reducible repeat (first | apply Kd.S_alloc | apply Kd.S_drewN | apply Kd.S_drew)); exact HO132.out) (Kd.R_base ho0) hb); have n1_ := Aside0.mk (Kd.R_lower ho0 (below_size (by repeat (first | (with_reducible first | exact HB.out | apply below_alloc | apply pw_below_drewN | apply below_drew1) | exact HB.out)))); have n2_ := Aside0.mk (below_step (by repeat (first | (with_reducible first | exact HB.out | apply below_alloc | apply pw_below_drewN | apply below_drew1) | exact HB.out)) hb); have nm_ := Aside0.mk (MapIn.below (by (with_reducible repeat (first | apply MapIn.alloc | apply MapIn.drewN | apply MapIn.drew)); exact HM.out) hb); clear HM; have HM := nm_; clear nm_; clear HO132; clear HB; have HO132 := n0_; have HO135 := n1_; have HB := n2_; clear n0_ n1_ n2_; (try clear hb); (try clear hb2); (try clear hk); (try clear hi); (try clear ho0)))
          go_roundg k1
          case measure => have := HK1.out; omega
          case rel => exact ⟨ks ++ [t126], (y130), (t133), ⟨(by (with_reducible repeat (first | apply MapIn.alloc | apply MapIn.drewN | apply MapIn.drew)); exact HM.out)⟩, ⟨by have := HL.out; rw [Ny130.out]; simp; omega⟩, H', ⟨by have := HK1.out; omega⟩, ⟨by (with_reducible repeat (first | apply Kd.S_alloc | apply Kd.S_drewN | apply Kd.S_drew)); exact Kd.S_mono HO132.out (fun _ hk => hk.2)⟩, ⟨by (with_reducible repeat (first | apply Kd.R_alloc | apply Kd.R_drewN | apply Kd.R_drew)); exact HO135.out⟩, ⟨by repeat (first | (with_reducible first | exact HB.out | apply below_alloc | apply pw_below_drewN | apply below_drew1) | exact HB.out)⟩⟩
        · rw [if_neg c13] at H
          exact absurd H (by simp)


/-! ### slices_Max_int_int: function 43 -/
def slices_Max_int_int.l0 : Nat → List Int → Int → Int → Option (Int)
  | 0, _, _, _ => none
  | k + 1, x0, x3, x4 => if x4 < (x0.length : Int) then (if 0 ≤ x4 then (slices_Max_int_int.l0 k x0 (mx x3 (rd x0 x4)) (wrap64 (x4 + 1))) else (none)) else (some x3)
def slices_Max_int_int.f (k : Nat) (l0 : List Int) : Option (Int) := if (l0.length : Int) < 1 then (none) else (if 0 < (l0.length : Int) then (slices_Max_int_int.l0 k l0 (rd l0 0) 1) else (none))
theorem slices_Max_int_int.mono_l : ∀ k, (∀ y0 y1 y2, LeO (slices_Max_int_int.l0 k y0 y1 y2) (slices_Max_int_int.l0 (k + 1) y0 y1 y2))
  | 0 => fun _ _ _ r h => by simp [slices_Max_int_int.l0] at h
  | k + 1 => by
    have ih0 := slices_Max_int_int.mono_l k
    · intro y0 y1 y2
      unfold slices_Max_int_int.l0
      repeat' first
      | (with_reducible exact ih0 _ _ _)
      | (with_reducible exact LeO.refl _)
      | (with_reducible exact LeO.none _)
      | (with_reducible refine LeO.ite ?_ ?_)
      | (with_reducible refine LeO.bind ?_ (fun _ => ?_))
      | exact ih0 _ _ _
      | exact LeO.none _
      | refine LeO.ite ?_ ?_
      | refine LeO.bind ?_ (fun _ => ?_)
theorem slices_Max_int_int.mono : ∀ a0 k, LeO (slices_Max_int_int.f k a0) (slices_Max_int_int.f (k + 1) a0) := by
  intro a0 k
  have ih0 := slices_Max_int_int.mono_l k
  unfold slices_Max_int_int.f
  repeat' first
      | (with_reducible exact ih0 _ _ _)
      | (with_reducible exact LeO.refl _)
      | (with_reducible exact LeO.none _)
      | (with_reducible refine LeO.ite ?_ ?_)
      | (with_reducible refine LeO.bind ?_ (fun _ => ?_))
      | exact ih0 _ _ _
      | exact LeO.none _
      | refine LeO.ite ?_ ?_
      | refine LeO.bind ?_ (fun _ => ?_)
set_option maxHeartbeats 8000000 in
set_option maxRecDepth 100000 in
theorem slices_Max_int_int.calls (k : Nat) (A0 : Option Addr) (c0 : Nat) (l0 : List Int) (r : Int) (w : World) (hr0 : Kd.C (Kd.int .i64) w A0 l0.length l0) (hc0 : l0.length ≤ c0) (h : slices_Max_int_int.f k l0 = some r) :
    Calls Tryd.prog 43 #[.slice A0 l0.length c0] w fun e w' => e = .returned (.int .i64 r) ∧ Below w.heap.size w w' := by
  have HR0 := Aside0.mk hr0
  have HC0 := Aside0.mk hc0
  clear hr0 hc0
  have HB := Aside0.mk (Below.refl w.heap.size w)
  have H : (if (l0.length : Int) < 1 then (none) else (if 0 < (l0.length : Int) then (slices_Max_int_int.l0 k l0 (rd l0 0) 1) else (none))) = some r := h
  clear h
  by_cases c2 : (l0.length : Int) < 1
  · rw [if_pos c2] at H
    exact absurd H (by simp)
  · rw [if_neg c2] at H
    have c2b0 : decide ((l0.length : Int) < 1) = false := decide_eq_false c2
    have c2b1 : decide (l0.length < 1) = false := decide_eq_false (by omega)
    clear c2
    by_cases c3 : 0 < (l0.length : Int)
    · rw [if_pos c3] at H
      have c3b0 : decide (0 < (l0.length : Int)) = true := decide_eq_true c3
      have c3b1 : decide (0 < l0.length) = true := decide_eq_true (by omega)
      clear c3
      have H' := Aside0.mk H
      clear H
      have p174 : 0 ≤ (0 : Int) := (by omega)
      have q174 : 0 < (l0.length : Int) := of_decide_eq_true (by first | (with_reducible assumption) | assumption)
      obtain ⟨ad174, e174, hx174_0⟩ := Kd.at_int HR0.out 0 p174 q174
      cases e174
      have qi174 : (0 < l0.length) = True := eq_true (by omega)
      (try rw [show ((0 : Int)).toNat = 0 from rfl] at hx174_0)
      (try rw [Addr.add_zero'] at hx174_0)
      replace p174 := eq_true p174
      replace q174 := eq_true q174
      go_enter Tryd.func43, Tryd.ntmps43
      go_wp2
      go_loopg [3, 4] k (fun kq v3 v4 w' => ∃ (x3_1 : Int) (x4_1 : Int), v3 = .int .i64 x3_1 ∧ v4 = .int .i64 x4_1 ∧ Aside0 (slices_Max_int_int.l0 kq l0 x3_1 x4_1 = some r) ∧ Aside0 (kq ≤ k) ∧ Aside0 (Below w.heap.size w w'))
      case atStart => exact ⟨(rd l0 0), (1), (by first | rfl | (simp; done) | (simp [*]; done)), (by first | rfl | (simp; done) | (simp [*]; done)), H', ⟨Nat.le_refl _⟩, ⟨by repeat (first | (with_reducible first | exact HB.out | apply below_alloc | apply pw_below_drewN | apply below_drew1) | exact HB.out)⟩⟩
      case round =>
        clear H'
        try clear p1
        try clear q1
        try clear hx1
        try clear qi1
        try clear c2
        try clear c2b0
        try clear c2b1
        try clear p2
        try clear c3
        try clear c3b0
        try clear c3b1
        try clear hx174_0
        try clear p174
        try clear q174
        obtain ⟨x3_1, x4_1, rfl, rfl, HA, HK1, HB⟩ := hrel
        cases gk with
        | zero => exact absurd HA.out (by simp [slices_Max_int_int.l0])
        | succ k1 =>
          have H := HA.out
          clear HA
          simp only [slices_Max_int_int.l0] at H
          by_cases c4 : x4_1 < (l0.length : Int)
          · rw [if_pos c4] at H
            have c4b0 : decide (x4_1 < (l0.length : Int)) = true := decide_eq_true c4
            clear c4
            by_cases c5 : 0 ≤ x4_1
            · rw [if_pos c5] at H
              have c5b0 : decide (0 ≤ x4_1) = true := decide_eq_true c5
              clear c5
              obtain ⟨ji6, hji6⟩ : ∃ j_ : Int, (mx x3_1 (rd l0 x4_1)) = j_ := ⟨_, rfl⟩
              replace H : (slices_Max_int_int.l0 k1 l0 ji6 (wrap64 (x4_1 + 1))) = some r := by first | (rw [hji6] at H; exact H) | (simp only [hji6] at H ⊢; exact H)
              have hji6_ : (if x3_1 < (rd l0 x4_1) then (rd l0 x4_1) else x3_1) = ji6 := hji6
              have H' := Aside0.mk H
              clear H
              have p175 : 0 ≤ (x4_1 : Int) := of_decide_eq_true (by first | (with_reducible assumption) | assumption)
              have q175 : x4_1 < (l0.length : Int) := of_decide_eq_true (by first | (with_reducible assumption) | assumption)
              obtain ⟨ad175, e175, hx175_0⟩ := Kd.at_int HR0.out x4_1 p175 q175
              obtain rfl : ad174 = ad175 := (by injection e175)
              replace hx175_0 := (HB.out.cell (World.block_lt_of_cell? w _ hx175_0)).trans hx175_0
              replace p175 := eq_true p175
              replace q175 := eq_true q175
              go_wp2
              go_roundg k1
              case measure => have := HK1.out; omega
              case rel => exact ⟨(ji6), (wrap64 (x4_1 + 1)), (by first | rfl | (simp; done) | (simp only [← hji6] <;> (first | rfl | simp)) | (simp [*]; done)), (by first | rfl | (simp; done) | (simp [*]; done)), H', ⟨by have := HK1.out; omega⟩, ⟨by repeat (first | (with_reducible first | exact HB.out | apply below_alloc | apply pw_below_drewN | apply below_drew1) | exact HB.out)⟩⟩
            · rw [if_neg c5] at H
              exact absurd H (by simp)
          · rw [if_neg c4] at H
            have c4b0 : decide (x4_1 < (l0.length : Int)) = false := decide_eq_false c4
            clear c4
            obtain rfl := Option.some.inj H
            go_wp2
            go_ret
            exact ⟨by first | rfl | (simp [errW_none, errW_some] <;> rfl) | (simp [*, errW_none, errW_some] <;> rfl), by repeat (first | (with_reducible first | exact HB.out | apply below_alloc | apply pw_below_drewN | apply below_drew1) | exact HB.out)⟩
    · rw [if_neg c3] at H
      exact absurd H (by simp)

/-! ### impl_stepsToZero: function 42 -/
def impl_stepsToZero.f (k : Nat) (l0 : List Int) : Option (Int) := (impl_ringCycle.f k l0).bind fun bt176 => (if 0 ≤ bt176.2 then (if bt176.2 < (bt176.1.length : Int) then ((slices_Max_int_int.f k (rd_L1 bt176.1 bt176.2)).bind fun t181 => (if t181 > 0 then (some (-1)) else (some bt176.2))) else (none)) else (none))
theorem impl_stepsToZero.mono : ∀ a0 k, LeO (impl_stepsToZero.f k a0) (impl_stepsToZero.f (k + 1) a0) := by
  intro a0 k
  unfold impl_stepsToZero.f
  repeat' first
      | (with_reducible exact impl_ringCycle.mono _ _)
      | (with_reducible exact slices_Max_int_int.mono _ _)
      | (with_reducible exact LeO.refl _)
      | (with_reducible exact LeO.none _)
      | (with_reducible refine LeO.ite ?_ ?_)
      | (with_reducible refine LeO.bind ?_ (fun _ => ?_))
      | exact impl_ringCycle.mono _ _
      | exact slices_Max_int_int.mono _ _
      | exact LeO.none _
      | refine LeO.ite ?_ ?_
      | refine LeO.bind ?_ (fun _ => ?_)
set_option maxHeartbeats 8000000 in
set_option maxRecDepth 100000 in
theorem impl_stepsToZero.calls (k : Nat) (A0 : Option Addr) (c0 : Nat) (l0 : List Int) (r : Int) (w : World) (hr0 : Kd.C (Kd.int .i64) w A0 l0.length l0) (hc0 : l0.length ≤ c0) (hG : Gl w) (h : impl_stepsToZero.f k l0 = some r) :
    Calls Tryd.prog 42 #[.slice A0 l0.length c0] w fun e w' => e = .returned (.int .i64 r) ∧ Below w.heap.size w w' := by
  have HR0 := Aside0.mk hr0
  have HC0 := Aside0.mk hc0
  clear hr0 hc0
  have HG := Aside0.mk hG
  clear hG
  have HB := Aside0.mk (Below.refl w.heap.size w)
  have H : ((impl_ringCycle.f k l0).bind fun bt176 => (if 0 ≤ bt176.2 then (if bt176.2 < (bt176.1.length : Int) then ((slices_Max_int_int.f k (rd_L1 bt176.1 bt176.2)).bind fun t181 => (if t181 > 0 then (some (-1)) else (some bt176.2))) else (none)) else (none))) = some r := h
  clear h
  replace H := Option.bind_eq_some_iff.mp H
  obtain ⟨⟨t176, t177⟩, A20, H⟩ := H
  replace H : (if 0 ≤ t177 then (if t177 < (t176.length : Int) then ((slices_Max_int_int.f k (rd_L1 t176 t177)).bind fun t181 => (if t181 > 0 then (some (-1)) else (some t177))) else (none)) else (none)) = some r := H
  have A2 := Aside0.mk A20
  clear A20
  by_cases c3 : 0 ≤ t177
  · rw [if_pos c3] at H
    have c3b0 : decide (0 ≤ t177) = true := decide_eq_true c3
    clear c3
    by_cases c4 : t177 < (t176.length : Int)
    · rw [if_pos c4] at H
      have c4b0 : decide (t177 < (t176.length : Int)) = true := decide_eq_true c4
      clear c4
      replace H := Option.bind_eq_some_iff.mp H
      obtain ⟨t181, A50, H⟩ := H
      replace H : (if t181 > 0 then (some (-1)) else (some t177)) = some r := H
      have A5 := Aside0.mk A50
      clear A50
      by_cases c6 : t181 > 0
      · rw [if_pos c6] at H
        have c6b0 : decide (0 < t181) = true := decide_eq_true c6
        clear c6
        obtain rfl := Option.some.inj H
        go_enter Tryd.func42, Tryd.ntmps42
        go_wp2_with (first | ((with_reducible refine gate_callee (f := 35) rfl ?_); refine goesL_ (some 7) rfl rfl Tryd.func35 (by kernel_rfl) rfl #[.slice A0 l0.length c0] rfl (by (try simp only [List.map_toArray, List.map_cons, List.map_nil]); first | done | rfl | (simp only [List.length_drop, List.length_take]; rfl)) ?_; (with_reducible refine (impl_ringCycle.calls k _ _ l0 t176 t177 _ ?side1 ?side2 ?side3 A2.out).mono ?_); (case side1 => repeat (first | exact HR0.out | (with_reducible refine Kd.C_alloc ?_ _) | (with_reducible refine Kd.C_drewN ?_ _) | (with_reducible refine Kd.C_drew ?_))); (case side2 => exact HC0.out); (case side3 => exact Gl.below HG.out (by repeat (first | (with_reducible first | exact HB.out | apply below_alloc | apply pw_below_drewN | apply below_drew1) | exact HB.out))); rintro e w7 ⟨v178, rfl, ho0, hb⟩; refine ⟨_, rfl, ?_⟩; have n0_ := Aside0.mk (Kd.S_lower ho0 (below_size (by repeat (first | (with_reducible first | exact HB.out | apply below_alloc | apply pw_below_drewN | apply below_drew1) | exact HB.out)))); have n1_ := Aside0.mk (below_step (by repeat (first | (with_reducible first | exact HB.out | apply below_alloc | apply pw_below_drewN | apply below_drew1) | exact HB.out)) hb); clear HB; have HO179 := n0_; have HB := n1_; clear n0_ n1_; (try clear hb); (try clear hb2); (try clear hk); (try clear hi); (try clear ho0); obtain ⟨Ao8, co8, eo8⟩ := Kd.S_slice HO179.out; subst eo8; have p180 : 0 ≤ (t177 : Int) := of_decide_eq_true (by first | (with_reducible assumption) | assumption); have q180 : t177 < (t176.length : Int) := of_decide_eq_true (by first | (with_reducible assumption) | assumption); obtain ⟨ad180, A180_0, c180_0, e180, hx180_0, hl180_0, hi180_0⟩ := at_L1 (Kd.S_reads' HO179.out).2.2 t177 p180 q180; cases e180; obtain ⟨ce180, hce180, hMe180, hcc180⟩ := Kd.S_get HO179.out [] t177 p180 (by first | exact q180 | exact of_decide_eq_true (by first | (with_reducible assumption) | assumption) | (have e_ := (Kd.S_reads' HO179.out).1; omega)); obtain ⟨ve180_0, rfl, ge180_0⟩ := hMe180; have hv180_0 := hcc180 0 _ rfl; rw [Nat.add_zero, show ((Kd.slice 3 (Kd.int .i64))).sz = 1 from rfl, Nat.mul_one] at hv180_0; replace hv180_0 := Option.some.inj (hv180_0.symm.trans hx180_0); rw [hv180_0] at ge180_0; have HL180_0 := Aside0.mk (show Kd.R (Kd.int .i64) 3 _ _ _ _ (rd_L1 t176 t177) from ge180_0); clear hv180_0 ge180_0; clear hcc180 hce180; have HR180_0 := Aside0.mk hi180_0; have HC180_0 := Aside0.mk hl180_0; clear hi180_0 hl180_0; replace p180 := eq_true p180; replace q180 := eq_true q180) | ((with_reducible refine gate_callee (f := 43) rfl ?_); refine goesL_ (some 14) rfl rfl Tryd.func43 (by kernel_rfl) rfl #[.slice A180_0 (rd_L1 t176 t177).length c180_0] rfl (by (try simp only [List.map_toArray, List.map_cons, List.map_nil]); first | done | rfl | (simp only [List.length_drop, List.length_take]; rfl)) ?_; (with_reducible refine (slices_Max_int_int.calls k _ _ (rd_L1 t176 t177) t181 _ ?side1 ?side2 A5.out).mono ?_); (case side1 => repeat (first | exact (by repeat (first | (with_reducible exact HR180_0.out) | (with_reducible refine Kd.C_alloc ?_ _) | (with_reducible refine Kd.C_drewN ?_ _) | (with_reducible refine Kd.C_drew ?_) | exact HR180_0.out)) | (with_reducible refine Kd.C_alloc ?_ _) | (with_reducible refine Kd.C_drewN ?_ _) | (with_reducible refine Kd.C_drew ?_))); (case side2 => exact HC180_0.out); rintro e w9 ⟨rfl, hb⟩; refine ⟨_, rfl, ?_⟩; have n0_ := Aside0.mk (Kd.S_below (by (with_reducible repeat (first | apply Kd.S_alloc | apply Kd.S_drewN | apply Kd.S_drew)); exact HO179.out) hb); have n1_ := Aside0.mk (Kd.R_below (by (with_reducible repeat (first | apply Kd.R_alloc | apply Kd.R_drewN | apply Kd.R_drew)); exact HL180_0.out) hb); have n2_ := Aside0.mk (Kd.C_below (by repeat (first | (with_reducible exact HR180_0.out) | (with_reducible refine Kd.C_alloc ?_ _) | (with_reducible refine Kd.C_drewN ?_ _) | (with_reducible refine Kd.C_drew ?_) | exact HR180_0.out)) hb); have n3_ := Aside0.mk (below_step (by repeat (first | (with_reducible first | exact HB.out | apply below_alloc | apply pw_below_drewN | apply below_drew1) | exact HB.out)) hb); clear HO179; clear HL180_0; clear HR180_0; clear HB; have HO179 := n0_; have HL180_0 := n1_; have HR180_0 := n2_; have HB := n3_; clear n0_ n1_ n2_ n3_; (try clear hb); (try clear hb2); (try clear hk); (try clear hi)))
        go_ret
        exact ⟨by first | rfl | (simp [errW_none, errW_some] <;> rfl) | (simp [*, errW_none, errW_some] <;> rfl), by repeat (first | (with_reducible first | exact HB.out | apply below_alloc | apply pw_below_drewN | apply below_drew1) | exact HB.out)⟩
      · rw [if_neg c6] at H
        have c6b0 : decide (0 < t181) = false := decide_eq_false c6
        clear c6
        obtain rfl := Option.some.inj H
        go_enter Tryd.func42, Tryd.ntmps42
        go_wp2_with (first | ((with_reducible refine gate_callee (f := 35) rfl ?_); refine goesL_ (some 7) rfl rfl Tryd.func35 (by kernel_rfl) rfl #[.slice A0 l0.length c0] rfl (by (try simp only [List.map_toArray, List.map_cons, List.map_nil]); first | done | rfl | (simp only [List.length_drop, List.length_take]; rfl)) ?_; (with_reducible refine (impl_ringCycle.calls k _ _ l0 t176 t177 _ ?side1 ?side2 ?side3 A2.out).mono ?_); (case side1 => repeat (first | exact HR0.out | (with_reducible refine Kd.C_alloc ?_ _) | (with_reducible refine Kd.C_drewN ?_ _) | (with_reducible refine Kd.C_drew ?_))); (case side2 => exact HC0.out); (case side3 => exact Gl.below HG.out (by repeat (first | (with_reducible first | exact HB.out | apply below_alloc | apply pw_below_drewN | apply below_drew1) | exact HB.out))); rintro e w10 ⟨v178, rfl, ho0, hb⟩; refine ⟨_, rfl, ?_⟩; have n0_ := Aside0.mk (Kd.S_lower ho0 (below_size (by repeat (first | (with_reducible first | exact HB.out | apply below_alloc | apply pw_below_drewN | apply below_drew1) | exact HB.out)))); have n1_ := Aside0.mk (below_step (by repeat (first | (with_reducible first | exact HB.out | apply below_alloc | apply pw_below_drewN | apply below_drew1) | exact HB.out)) hb); clear HB; have HO179 := n0_; have HB := n1_; clear n0_ n1_; (try clear hb); (try clear hb2); (try clear hk); (try clear hi); (try clear ho0); obtain ⟨Ao11, co11, eo11⟩ := Kd.S_slice HO179.out; subst eo11; have p180 : 0 ≤ (t177 : Int) := of_decide_eq_true (by first | (with_reducible assumption) | assumption); have q180 : t177 < (t176.length : Int) := of_decide_eq_true (by first | (with_reducible assumption) | assumption); obtain ⟨ad180, A180_0, c180_0, e180, hx180_0, hl180_0, hi180_0⟩ := at_L1 (Kd.S_reads' HO179.out).2.2 t177 p180 q180; cases e180; obtain ⟨ce180, hce180, hMe180, hcc180⟩ := Kd.S_get HO179.out [] t177 p180 (by first | exact q180 | exact of_decide_eq_true (by first | (with_reducible assumption) | assumption) | (have e_ := (Kd.S_reads' HO179.out).1; omega)); obtain ⟨ve180_0, rfl, ge180_0⟩ := hMe180; have hv180_0 := hcc180 0 _ rfl; rw [Nat.add_zero, show ((Kd.slice 3 (Kd.int .i64))).sz = 1 from rfl, Nat.mul_one] at hv180_0; replace hv180_0 := Option.some.inj (hv180_0.symm.trans hx180_0); rw [hv180_0] at ge180_0; have HL180_0 := Aside0.mk (show Kd.R (Kd.int .i64) 3 _ _ _ _ (rd_L1 t176 t177) from ge180_0); clear hv180_0 ge180_0; clear hcc180 hce180; have HR180_0 := Aside0.mk hi180_0; have HC180_0 := Aside0.mk hl180_0; clear hi180_0 hl180_0; replace p180 := eq_true p180; replace q180 := eq_true q180) | ((with_reducible refine gate_callee (f := 43) rfl ?_); refine goesL_ (some 14) rfl rfl Tryd.func43 (by kernel_rfl) rfl #[.slice A180_0 (rd_L1 t176 t177).length c180_0] rfl (by (try simp only [List.map_toArray, List.map_cons, List.map_nil]); first | done | rfl | (simp only [List.length_drop, List.length_take]; rfl)) ?_; (with_reducible refine (slices_Max_int_int.calls k _ _ (rd_L1 t176 t177) t181 _ ?side1 ?side2 A5.out).mono ?_); (case side1 => repeat (first | exact (by repeat (first | (with_reducible exact HR180_0.out) | (with_reducible refine Kd.C_alloc ?_ _) | (with_reducible refine Kd.C_drewN ?_ _) | (with_reducible refine Kd.C_drew ?_) | exact HR180_0.out)) | (with_reducible refine Kd.C_alloc ?_ _) | (with_reducible refine Kd.C_drewN ?_ _) | (with_reducible refine Kd.C_drew ?_))); (case side2 => exact HC180_0.out); rintro e w12 ⟨rfl, hb⟩; refine ⟨_, rfl, ?_⟩; have n0_ := Aside0.mk (Kd.S_below (by (with_reducible repeat (first | apply Kd.S_alloc | apply Kd.S_drewN | apply Kd.S_drew)); exact HO179.out) hb); have n1_ := Aside0.mk (Kd.R_below (by (with_reducible repeat (first | apply Kd.R_alloc | apply Kd.R_drewN | apply Kd.R_drew)); exact HL180_0.out) hb); have n2_ := Aside0.mk (Kd.C_below (by repeat (first | (with_reducible exact HR180_0.out) | (with_reducible refine Kd.C_alloc ?_ _) | (with_reducible refine Kd.C_drewN ?_ _) | (with_reducible refine Kd.C_drew ?_) | exact HR180_0.out)) hb); have n3_ := Aside0.mk (below_step (by repeat (first | (with_reducible first | exact HB.out | apply below_alloc | apply pw_below_drewN | apply below_drew1) | exact HB.out)) hb); clear HO179; clear HL180_0; clear HR180_0; clear HB; have HO179 := n0_; have HL180_0 := n1_; have HR180_0 := n2_; have HB := n3_; clear n0_ n1_ n2_ n3_; (try clear hb); (try clear hb2); (try clear hk); (try clear hi)))
        go_ret
        exact ⟨by first | rfl | (simp [errW_none, errW_some] <;> rfl) | (simp [*, errW_none, errW_some] <;> rfl), by repeat (first | (with_reducible first | exact HB.out | apply below_alloc | apply pw_below_drewN | apply below_drew1) | exact HB.out)⟩
    · rw [if_neg c4] at H
      exact absurd H (by simp)
  · rw [if_neg c3] at H
    exact absurd H (by simp)

/-! ### impl_SlowestToZero: function 28, by hand -/
/-- What the closure does with a ring: the first slowest one is kept, and its steps. -/
def SlowestToZero.cb (k : Nat) (s : List Int × Int) (l : List Int) : Option (List Int × Int) :=
  if l = [] then none else (impl_stepsToZero.f k l).bind fun e => (slices_Clone_int_int.f l).bind fun c => if e > s.2 then some (c, e) else some s
theorem SlowestToZero.cb_mono (k : Nat) (s : List Int × Int) (l : List Int) : LeO (SlowestToZero.cb k s l) (SlowestToZero.cb (k + 1) s l) := LeO.ite (LeO.refl _) (LeO.bind (impl_stepsToZero.mono _ _) (fun _ => LeO.refl _))
def SlowestToZero.Post (s s' : List Int × Int) (b1 b2 : Nat) (W W' : World) : Prop :=
  (∃ W1 v, Below W.heap.size W W1 ∧ Kd.R (Kd.int .i64) 3 W1 W.heap.size (fun _ => True) v s'.1 ∧ W' = (W1.setCell ⟨b2, 0, none⟩ v).setCell ⟨b1, 0, none⟩ (.int .i64 s'.2)) ∨ (Below W.heap.size W W' ∧ s' = s)
theorem s2_set {W : World} {b : Nat} {o : Obj} (h : W.heap[b]? = some o) {p : Addr} (hb : b ≠ p.block) (u : Value) : (W.setCell p u).heap[b]? = some o := (Below.heap_setCell W p u b hb).trans h
set_option maxHeartbeats 1600000 in
set_option maxRecDepth 100000 in
theorem SlowestToZero.each (k : Nat) (s s' : List Int × Int) (b1 b2 : Nat) (A : Option Addr) (c : Nat) (l : List Int) (vb : Value) (W : World) (hl : l ≠ []) (hG : Gl W)
    (h1 : W.heap[b1]? = some (.cells #[.int .i64 s.2] 3 (0, 0))) (h2 : W.heap[b2]? = some (.cells #[vb] 22 (0, 0))) (n12 : b1 ≠ b2) (hr : Kd.C (Kd.int .i64) W A l.length l) (hc : l.length ≤ c) (h : SlowestToZero.cb k s l = some s') :
    Calls Tryd.prog 46 #[.slice A l.length c, .pointer (some ⟨b1, 0, none⟩), .pointer (some ⟨b2, 0, none⟩)] W fun e W' => (∃ v, e = .returned v) ∧ SlowestToZero.Post s s' b1 b2 W W' := by
  obtain ⟨sb, sl⟩ := s
  rw [SlowestToZero.cb, if_neg hl] at h
  obtain ⟨en, hA, H0⟩ := Option.bind_eq_some_iff.mp h
  obtain ⟨cl, hC, H⟩ := Option.bind_eq_some_iff.mp H0
  clear H0
  dsimp only at H h1
  have HE := Aside0.mk (impl_stepsToZero.calls k A c l en W hr hc hG hA)
  have HCl := Aside0.mk hC
  have HR := Aside0.mk hr
  have HL := Aside0.mk hc
  have H1 := Aside0.mk h1
  have H2 := Aside0.mk h2
  have N12 := Aside0.mk n12
  have HNE := Aside0.mk hl
  clear h hA hC hr hc h1 h2 n12 hl hG
  have hcl : cl = l := by
    have := HCl.out
    unfold slices_Clone_int_int.f at this
    split at this
    · exact (Option.some.inj this).symm
    · cases this
  have hcl' := hcl.symm
  clear hcl
  subst hcl'
  by_cases c1 : en > sl
  · rw [if_pos c1] at H
    obtain rfl := (Option.some.inj H).symm
    have d1 : decide (sl < en) = true := decide_eq_true c1
    clear H c1
    go_enter Tryd.func46, Tryd.ntmps46
    go_wp2_with (first | (go_at_call 42; refine HE.out.mono ?_; rintro e w6 ⟨rfl, hb⟩; have c3 := cell_of_one ((hb.block b1 (lt_of_block H1.out)).trans H1.out); have HB6 := Aside0.mk hb; clear hb) | (go_at_call 47; refine (slices_Clone_int_int.calls _ _ l l _ (Kd.C_below HR.out HB6.out) HL.out HCl.out).mono ?_; rintro e w7 ⟨v, rfl, ho, hb⟩; have HB7 := Aside0.mk (HB6.out.trans (hb.mono HB6.out.size)); have x1 := (HB7.out.block b1 (lt_of_block H1.out)).trans H1.out; have x2 := (HB7.out.block b2 (lt_of_block H2.out)).trans H2.out; have HO7 := Aside0.mk (Kd.R_lower ho HB6.out.size); obtain ⟨ad7, cc7, rfl⟩ := Kd.R_slice1 ho (List.length_pos_iff.2 HNE.out); have g2 := cell_of_one x2; have f2 := free_of_one x2; have g1 := cell_of_one (s2_set x1 (p := ⟨b2, 0, none⟩) N12.out (.slice (some ad7) l.length cc7)); have f1 := free_of_one (s2_set x1 (p := ⟨b2, 0, none⟩) N12.out (.slice (some ad7) l.length cc7)); clear hb ho x1 x2))
    go_end0
    exact ⟨⟨_, rfl⟩, .inl ⟨w7, _, HB7.out, HO7.out, rfl⟩⟩
  · rw [if_neg c1] at H
    obtain rfl := (Option.some.inj H).symm
    have d1 : decide (sl < en) = false := decide_eq_false c1
    clear H c1
    go_enter Tryd.func46, Tryd.ntmps46
    go_wp2_with (go_at_call 42; refine HE.out.mono ?_; rintro e w6 ⟨rfl, hb⟩; have c3 := cell_of_one ((hb.block b1 (lt_of_block H1.out)).trans H1.out); have HB6 := Aside0.mk hb; clear hb)
    go_end0
    exact ⟨⟨_, rfl⟩, .inr ⟨HB6.out, rfl⟩⟩
def impl_SlowestToZero.f (k : Nat) (a0 a1 : Int) : Option (List Int × Int × Bool) := if a0 = 2 ∨ a0 = 4 then ((impl_within.f a1 0 6).bind fun t => if t = true then ((impl_listsOf.f SlowestToZero.cb k a0 a1 ([], -1)).bind fun r => some (r.1, r.2, true)) else some ([], 0, false)) else some ([], 0, false)
theorem impl_SlowestToZero.mono : ∀ a0 a1 k, LeO (impl_SlowestToZero.f k a0 a1) (impl_SlowestToZero.f (k + 1) a0 a1) := fun a0 a1 k => LeO.ite (LeO.bind (LeO.refl _) (fun _ => LeO.ite (LeO.bind (impl_listsOf.mono _ SlowestToZero.cb_mono _ _ _ _) (fun _ => LeO.refl _)) (LeO.refl _))) (LeO.refl _)
/-- Between the calls: the boxes (b1: longest, b2: best), and the ring that is kept, which is none of the list's block b. -/
def SlowestToZero.J (w0 : World) (b1 b2 N b : Nat) (s : List Int × Int) (W : World) : Prop :=
  Below w0.heap.size w0 W ∧ W.heap[b1]? = some (.cells #[.int .i64 s.2] 3 (0, 0)) ∧ ∃ v, W.heap[b2]? = some (.cells #[v] 22 (0, 0)) ∧ Kd.R (Kd.int .i64) 3 W N (fun k => k ≠ b) v s.1
theorem SlowestToZero.mv {w0 : World} {b1 b2 N : Nat} (h0 : w0.heap.size ≤ N) (h1 : b1 < N) (h2 : b2 < N) :
    ∀ b s W W1, N ≤ b → N ≤ W.heap.size → SlowestToZero.J w0 b1 b2 N b s W → KeepO b W W1 → SlowestToZero.J w0 b1 b2 N b s W1 := by
  intro b s W W1 hb hN ⟨j0, j1, v, j2, j3⟩ k
  have kk : ∀ q, q < N → W1.heap[q]? = W.heap[q]? := fun q hq => k.block q (by omega) (by omega)
  exact ⟨j0.trans ((k.below hb hN).mono h0), (kk b1 h1).trans j1, v, (kk b2 h2).trans j2, Kd.R_step j3 (fun q hq hl => k.block q hl hq)⟩
theorem SlowestToZero.step {w0 : World} {b1 b2 N b : Nat} {s s' : List Int × Int} {W W' : World} (h0 : w0.heap.size ≤ b2) (h12 : b2 < b1) (h5N : b1 < N) (hb : N ≤ b) (hlt : b < W.heap.size)
    (h : SlowestToZero.J w0 b1 b2 N b s W) (hp : SlowestToZero.Post s s' b1 b2 W W') : SlowestToZero.J w0 b1 b2 N b s' W' ∧ W.heap.size ≤ W'.heap.size ∧ ∀ q, N ≤ q → q < W.heap.size → W'.heap[q]? = W.heap[q]? := by
  obtain ⟨j0, j1, v, j2, j3⟩ := h
  rcases hp with ⟨W1, v', k, hR, rfl⟩ | ⟨k, rfl⟩
  · have kk : ∀ q, q < W.heap.size → W1.heap[q]? = W.heap[q]? := k.block
    have hsz := k.size
    have hR2 : Kd.R (Kd.int .i64) 3 ((W1.setCell ⟨b2, 0, none⟩ v').setCell ⟨b1, 0, none⟩ (.int .i64 s'.2)) N (fun k => k ≠ b) v' s'.1 := by
      have r1 := Kd.R_mono (Kd.R_bound hR) (ok' := fun q => W.heap.size ≤ q) (fun q hq => hq.2.1)
      have r2 := Kd.R_far (p := ⟨b2, 0, none⟩) r1 (fun q hq => by show q ≠ b2; have : W.heap.size ≤ q := hq; omega) v'
      have r3 := Kd.R_far (p := ⟨b1, 0, none⟩) r2 (fun q hq => by show q ≠ b1; have : W.heap.size ≤ q := hq; omega) (.int .i64 s'.2)
      exact Kd.R_lower (Kd.R_mono r3 (fun q hq => by have : W.heap.size ≤ q := hq; omega)) (by omega)
    refine ⟨⟨?_, ?_, v', ?_, hR2⟩, by simpa [World.setCell] using hsz, fun q q1 q2 => ?_⟩
    · exact ((j0.trans (k.mono (by omega))).setCell (show w0.heap.size ≤ b2 by omega) _).setCell (show w0.heap.size ≤ b1 by omega) _
    · exact one_setCell (s2_set ((kk b1 (by omega)).trans j1) (p := ⟨b2, 0, none⟩) (by show b1 ≠ b2; omega) _)
    · exact s2_set (one_setCell ((kk b2 (by omega)).trans j2)) (p := ⟨b1, 0, none⟩) (by show b2 ≠ b1; omega) _
    · rw [Below.heap_setCell _ _ _ _ (by show q ≠ b1; omega), Below.heap_setCell _ _ _ _ (by show q ≠ b2; omega)]
      exact kk q q2
  · have kk : ∀ q, q < W.heap.size → W'.heap[q]? = W.heap[q]? := k.block
    exact ⟨⟨j0.trans (k.mono (by omega)), (kk b1 (by omega)).trans j1, v, (kk b2 (by omega)).trans j2, Kd.R_below j3 k⟩, k.size, fun q _ q2 => kk q q2⟩
/-- The two new boxes, behind some draws. -/
def SlowestToZero.made (w : World) (nd : Nat) : World := ((w.drewN nd).alloc (.cells #[.slice none 0 0] 22)).alloc (.cells #[.int .i64 (-1)] 3)
theorem SlowestToZero.two (w : World) (nd : Nat) (o1 o2 : Obj) : (((w.drewN nd).alloc o1).alloc o2).heap.size = w.heap.size + 2 ∧ (((w.drewN nd).alloc o1).alloc o2).heap[w.heap.size]? = some o1 ∧ (((w.drewN nd).alloc o1).alloc o2).heap[w.heap.size + 1]? = some o2 := by
  have hh : (((w.drewN nd).alloc o1).alloc o2).heap = (w.heap.push o1).push o2 := rfl
  rw [hh]
  refine ⟨by simp, ?_, ?_⟩
  · rw [Array.getElem?_push, if_neg (by rw [Array.size_push]; omega), Array.getElem?_push, if_pos rfl]
  · rw [Array.getElem?_push, if_pos (by rw [Array.size_push])]
theorem SlowestToZero.made_size (w : World) (nd : Nat) : (SlowestToZero.made w nd).heap.size = w.heap.size + 2 := (SlowestToZero.two w nd (.cells #[.slice none 0 0] 22) (.cells #[.int .i64 (-1)] 3)).1
theorem SlowestToZero.made_below (w : World) (nd : Nat) : Below w.heap.size w (SlowestToZero.made w nd) := below_alloc (below_alloc (pw_below_drewN (Below.refl w.heap.size w) nd) _) _
theorem SlowestToZero.made_J (w : World) (nd : Nat) : ∀ b W, (SlowestToZero.made w nd).heap.size ≤ b → Below (SlowestToZero.made w nd).heap.size (SlowestToZero.made w nd) W → SlowestToZero.J w (w.heap.size + 1) w.heap.size (w.heap.size + 2) b ([], -1) W := by
  intro b W hb hB
  have hs := SlowestToZero.made_size w nd
  have ht := SlowestToZero.two w nd (.cells #[.slice none 0 0] 22) (.cells #[.int .i64 (-1)] 3)
  refine ⟨(SlowestToZero.made_below w nd).trans (hB.mono (by omega)), ?_, .slice none 0 0, ?_, Kd.R_nil _ _ _ _ _⟩
  · rw [hB.block _ (by omega)]
    exact ht.2.2
  · rw [hB.block _ (by omega)]
    exact ht.2.1
theorem SlowestToZero.hf (w : World) (nd : Nat) (hG : Gl w) : ∀ b k' s s' W (A : Option Addr) (c : Nat) (l : List Int), SlowestToZero.cb k' s l = some s' → SlowestToZero.J w (w.heap.size + 1) w.heap.size (w.heap.size + 2) b s W → (SlowestToZero.made w nd).heap.size ≤ b → b < W.heap.size → Kd.C (Kd.int .i64) W A l.length l → l.length ≤ c →
    Calls Tryd.prog 46 (#[.slice A l.length c] ++ #[.pointer (some ⟨w.heap.size + 1, 0, none⟩), .pointer (some ⟨w.heap.size, 0, none⟩)]) W fun e W' => (∃ v, e = .returned v) ∧ SlowestToZero.J w (w.heap.size + 1) w.heap.size (w.heap.size + 2) b s' W' ∧ W.heap.size ≤ W'.heap.size ∧ ∀ q, (SlowestToZero.made w nd).heap.size ≤ q → q < W.heap.size → W'.heap[q]? = W.heap[q]? := by
  intro b k' s s' W A c l h1 h2 h3 h4 h5 h6
  rw [SlowestToZero.made_size] at h3 ⊢
  obtain ⟨j0, j1, v, j2, j3⟩ := id h2
  refine (SlowestToZero.each k' s s' (w.heap.size + 1) w.heap.size A c l v W ?_ (Gl.below hG j0) j1 j2 (by omega) h5 h6 h1).mono ?_
  · rintro rfl
    rw [SlowestToZero.cb, if_pos rfl] at h1
    cases h1
  · rintro e W' ⟨p1, p2⟩
    exact ⟨p1, SlowestToZero.step (Nat.le_refl _) (by omega) (by omega) h3 h4 h2 p2⟩
theorem SlowestToZero.hmv (w : World) (nd : Nat) : ∀ b s W W1, (SlowestToZero.made w nd).heap.size ≤ b → (SlowestToZero.made w nd).heap.size ≤ W.heap.size → SlowestToZero.J w (w.heap.size + 1) w.heap.size (w.heap.size + 2) b s W → KeepO b W W1 → SlowestToZero.J w (w.heap.size + 1) w.heap.size (w.heap.size + 2) b s W1 := by
  intro b s W W1 h1 h2 h3 h4
  rw [SlowestToZero.made_size] at h1 h2
  exact SlowestToZero.mv (by omega) (by omega) (by omega) b s W W1 h1 h2 h3 h4
set_option maxHeartbeats 8000000 in
set_option maxRecDepth 100000 in
theorem impl_SlowestToZero.go (k : Nat) (a0 a1 : Int) (r1 : List Int) (r2 : Int) (w : World) (hG : Gl w) (hW : impl_within.f a1 0 6 = some true) (hL : impl_listsOf.f SlowestToZero.cb k a0 a1 ([], -1) = some (r1, r2)) (ha : a0 = 2 ∨ a0 = 4) :
    Calls Tryd.prog 28 #[.int .i64 a0, .int .i64 a1] w fun e w' => ∃ v0_ : Value, e = .returned (.tuple #[v0_, .int .i64 r2, .bool true]) ∧ Kd.R (Kd.int .i64) 3 w' w.heap.size (fun _ => True) v0_ r1 ∧ Below w.heap.size w w' := by
  have eg : ∀ args w, (callFunc 46 args).run Tryd.prog w = .ok (.enter 46 args) w := enters_of Tryd.func46 (by kernel_rfl) rfl
  have HW := Aside0.mk hW
  have HL := Aside0.mk (fun nd => impl_listsOf.calls SlowestToZero.cb k a0 a1 46 #[.pointer (some ⟨w.heap.size + 1, 0, none⟩), .pointer (some ⟨w.heap.size, 0, none⟩)] ([], -1) (r1, r2) (SlowestToZero.J w (w.heap.size + 1) w.heap.size (w.heap.size + 2)) (SlowestToZero.made w nd) eg (SlowestToZero.hf w nd hG) (SlowestToZero.hmv w nd) (SlowestToZero.made_J w nd) hL)
  have hcl : ∀ nd, (((w.drewN nd).alloc (.cells #[.slice none 0 0] 22)).alloc (.cells #[.int .i64 0] 3)).cell? ⟨w.heap.size + 1, 0, none⟩ = some (.int .i64 0) := fun nd => cell_of_one (SlowestToZero.two w nd _ _).2.2
  have hfr : ∀ nd, (((w.drewN nd).alloc (.cells #[.slice none 0 0] 22)).alloc (.cells #[.int .i64 0] 3)).frozen? ⟨w.heap.size + 1, 0, none⟩ = false := fun nd => free_of_one (SlowestToZero.two w nd _ _).2.2
  clear hW hL hG eg
  rcases ha with rfl | rfl
  all_goals
    go_enter Tryd.func28, Tryd.ntmps28
    go_wp2_with (first | (go_at_call 38; refine (impl_within.calls a1 0 6 true _ HW.out).mono ?_; rintro e w1 ⟨rfl, ⟨nd, rfl⟩⟩) | (go_at_call 45; refine (HL.out _).mono ?_; rintro e w8 ⟨rfl, b8, hb8, hj⟩; obtain ⟨j0, j1, v8, j2, j3⟩ := hj; have q1 := cell_of_one j1; have q2 := cell_of_one j2; have HJ0 := Aside0.mk j0; have HJR := Aside0.mk (Kd.R_lower (Kd.R_mono j3 (ok' := fun _ => True) (fun _ _ => trivial)) (show w.heap.size ≤ w.heap.size + 2 by omega)); clear j0 j1 j2 j3))
    go_region
    all_goals (try go_wp2)
    all_goals ((try simp only [Exit.inBlock, Exit.then]); refine bodyPost_ret (results_tmp3 rfl _ _ _) rfl ?_)
    all_goals exact ⟨_, rfl, (by (with_reducible repeat (first | apply Kd.R_alloc | apply Kd.R_drewN | apply Kd.R_drew)); exact HJR.out), (by repeat (first | (with_reducible first | exact HJ0.out | apply below_alloc | apply pw_below_drewN | apply below_drew1) | exact HJ0.out))⟩
set_option maxHeartbeats 8000000 in
set_option maxRecDepth 100000 in
theorem impl_SlowestToZero.calls (k : Nat) (a0 a1 : Int) (r1 : List Int) (r2 : Int) (r3 : Bool) (w : World) (hG : Gl w) (h : impl_SlowestToZero.f k a0 a1 = some (r1, r2, r3)) :
    Calls Tryd.prog 28 #[.int .i64 a0, .int .i64 a1] w fun e w' => ∃ v0_ : Value, e = .returned (.tuple #[v0_, .int .i64 r2, .bool r3]) ∧ Kd.R (Kd.int .i64) 3 w' w.heap.size (fun _ => True) v0_ r1 ∧ Below w.heap.size w w' := by
  unfold impl_SlowestToZero.f at h
  by_cases ha : a0 = 2 ∨ a0 = 4
  · rw [if_pos ha] at h
    obtain ⟨t, hW, h⟩ := Option.bind_eq_some_iff.mp h
    cases t with
    | true =>
      rw [if_pos rfl] at h
      obtain ⟨⟨x1, x2⟩, hX, h⟩ := Option.bind_eq_some_iff.mp h
      cases h
      exact impl_SlowestToZero.go k a0 a1 x1 x2 w hG hW hX ha
    | false =>
      rw [if_neg (by decide)] at h
      cases h
      have HW := Aside0.mk hW
      clear hW
      rcases ha with rfl | rfl
      all_goals
        go_enter Tryd.func28, Tryd.ntmps28
        go_wp2_with (go_at_call 38; refine (impl_within.calls a1 0 6 false _ HW.out).mono ?_; rintro e w1 ⟨rfl, hd⟩; have HB := Aside0.mk hd.below; clear hd)
        go_ret3
        exact ⟨_, rfl, Kd.R_nil _ _ _ _ _, HB.out⟩
  · rw [if_neg ha] at h
    cases h
    have n1 : (a0 != 2) = true := by simp; omega
    have n2 : (a0 != 4) = true := by simp; omega
    have n3 : (a0 == 2) = false := by simp; omega
    have n4 : (a0 == 4) = false := by simp; omega
    clear ha
    go_enter Tryd.func28, Tryd.ntmps28
    go_wp2
    go_ret3
    exact ⟨_, rfl, Kd.R_nil _ _ _ _ _, Below.refl _ _⟩

end Go.Proofs.YtffhhhkdnkdlgaaDoor.PFnExactSlowestToZero
