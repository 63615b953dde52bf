-- Written by a program of this session (wip/tool/myprint.py) over the translation. Not trusted: Lean checks it.
import Derived.Test.YtdiobgmdmeomjaaPFnExactRingsBeforex0
import Derived.Test.YtdiobgmdmeomjaaPFnExactRingsBeforex1
import Derived.Test.YtdiobgmdmeomjaaPFnExactRingsBeforex3
import Derived.Test.YtdiobgmdmeomjaaPFnExactRingsBeforex5
import Derived.Test.YtdiobgmdmeomjaaPFnExactRingsBeforex6
namespace Go.Proofs.Ytdiobgmdmeomjaa.PFnExactRingsBefore
open Go.RowKit Go.Proofs.YtdiobgmdmeomjaaW.PrintWords Go.Proofs.YtdiobgmdmeomjaaW.PrintLast Go.Proofs.YtdiobgmdmeomjaaW.PrintMore
attribute [local go_sem] max2_int min2_int max_two min_two max_three min_three max_four min_four   -- for this text's walks alone
set_option linter.unusedVariables false
set_option linter.unusedSimpArgs false

/-! ### laws_FnExactRingsBefore: function 7, by hand -/
/-- Its rings lie apart. -/
theorem impl_RingsBefore.callsR (k : Nat) (A0 : Option Addr) (c0 : Nat) (l0 : List Int) (r1 : List (List Int)) (r2 : Bool) (w : World) (hr0 : Kd.C (Kd.int .i64) w A0 l0.length l0) (hc0 : l0.length ≤ c0) (h : impl_RingsBefore.f k l0 = some (r1, r2)) :
    Calls Try.prog 26 #[.slice A0 l0.length c0] w fun e w' => ∃ v0_ : Value, e = .returned (.tuple #[v0_, .bool r2]) ∧ Rws w' w.heap.size (fun k => w.heap.size ≤ k) v0_ r1 ∧ Below w.heap.size w w' :=
  (impl_RingsBefore.calls k A0 c0 l0 r1 r2 w hr0 hc0 h).mono fun e w' ⟨v, he, ho, hb⟩ => by
    obtain ⟨A2, c2, rfl⟩ := Kd.S_slice ho
    exact ⟨_, he, Rws.of_S (Kd.S_mono (Kd.S_bound ho) (fun k hk => hk.2.1)), hb⟩
/-- Between the calls of a law that compares rows of rows: what the reference told stays read, what the program told lies apart. -/
structure LawSt (w : World) (n2 n3 : Nat) (A2 : Option Addr) (s1 : List (List Int)) (v4 : Value) (g : List (List Int)) (W : World) : Prop where
  below : Below w.heap.size w W
  le : n2 ≤ n3
  f2 : Kd.F (Kd.slice 3 (Kd.int .i64)) W (fun k => k < n2) A2 s1.length s1
  r4 : Rws W w.heap.size (fun k => n3 ≤ k) v4 g
theorem LawSt.go {w W W1 : World} {n2 n3 : Nat} {A2 : Option Addr} {s1 g : List (List Int)} {v4 : Value} (h : LawSt w n2 n3 A2 s1 v4 g W) (hb : Below W.heap.size W W1) : LawSt w n2 n3 A2 s1 v4 g W1 := ⟨below_step h.below hb, h.le, Kd.F_below h.f2 hb, h.r4.below hb⟩
theorem LawSt.drawn {w W W1 : World} {n2 n3 : Nat} {A2 : Option Addr} {s1 g : List (List Int)} {v4 : Value} (h : LawSt w n2 n3 A2 s1 v4 g W) (hb : Drawn0 W W1) : LawSt w n2 n3 A2 s1 v4 g W1 := by
  obtain ⟨q, rfl⟩ := hb
  exact h.go (pw_below_drewN (Below.refl _ _) q)
theorem LawSt.slR {w : World} {base : Nat} {ok : Nat → Prop} {v : Value} {xs : List (List Int)} (h : Kd.R (Kd.slice 3 (Kd.int .i64)) 22 w base ok v xs) : ∃ A c, v = .slice A xs.length c ∧ Kd.F (Kd.slice 3 (Kd.int .i64)) w (fun k => k < w.heap.size) A xs.length xs ∧ xs.length ≤ c := by
  obtain ⟨A, c, rfl⟩ := Kd.R_slice h
  exact ⟨A, c, rfl, Kd.F_mono (Kd.R_F (Kd.R_bound h)) (fun k hk => hk.2.2.1), (Kd.R_reads' h).2.1⟩
theorem LawSt.slS {w : World} {base : Nat} {ok : Nat → Prop} {v : Value} {xs : List (List Int)} (h : Kd.S (Kd.slice 3 (Kd.int .i64)) 22 w base ok v xs) : ∃ A c, v = .slice A xs.length c ∧ Kd.F (Kd.slice 3 (Kd.int .i64)) w (fun k => k < w.heap.size) A xs.length xs ∧ xs.length ≤ c := LawSt.slR (Kd.S_R h)
theorem LawSt.slQ {w : World} {base : Nat} {ok : Nat → Prop} {v : Value} {xs : List (List Int)} (h : Kd.Q (Kd.slice 3 (Kd.int .i64)) 22 w base ok v xs) : ∃ A c, v = .slice A xs.length c ∧ Kd.F (Kd.slice 3 (Kd.int .i64)) w (fun k => k < w.heap.size) A xs.length xs ∧ xs.length ≤ c := by
  obtain ⟨A, c, rfl, _⟩ := Kd.Q_slice h
  exact ⟨A, c, rfl, Kd.F_mono (Kd.Q_F (Kd.Q_bound h)) (fun k hk => hk.2.2.1), (Kd.Q_reads' h).2.1⟩
theorem LawSt.arg {w W : World} {base b : Nat} {v : Value} {xs : List Int} {E : Nat → Prop} (h : Kd.R (Kd.int .i64) 3 w base (fun k => True ∧ b ≤ k ∧ k < W.heap.size ∧ E k) v xs) : Kd.R (Kd.int .i64) 3 w base (fun k => b ≤ k ∧ k < W.heap.size) v xs := Kd.R_mono h (fun k hk => ⟨hk.2.1, hk.2.2.1⟩)
theorem LawSt.eq_ {k n c2 : Nat} {W : World} {base : Nat} {ok : Nat → Prop} {v : Value} {g s : List (List Int)} {A2 : Option Addr} {b : Bool} (hr : Rws W base ok v g) (hf : Kd.F (Kd.slice 3 (Kd.int .i64)) W (fun k => k < n) A2 s.length s) (hc : s.length ≤ c2) (h : laws_eqIntSS.f k g s = some b) :
    Calls Try.prog 12 #[v, .slice A2 s.length c2] W fun e w' => e = .returned (.bool b) ∧ Drawn0 W w' := by
  obtain ⟨A, c, rfl, hl, hC⟩ := hr.reads
  exact laws_eqIntSS.calls k A c g A2 c2 s b W hC hl (Kd.F_now hf) hc h
theorem LawSt.held_ {k : Nat} {W : World} {base : Nat} {ok : Nat → Prop} {v : Value} {g : List (List Int)} {q : Int} (hr : Rws W base ok v g) (h : laws_heldIntSS.f k g 1 = some q) :
    Calls Try.prog 16 #[v, .int .i64 1] W fun e w' => e = .returned (.int .i64 q) ∧ Drawn0 W w' := by
  obtain ⟨A, c, rfl, hl, hC⟩ := hr.reads
  exact laws_heldIntSS.calls k A c g 1 q W hC hl h
theorem LawSt.mark_ {w W : World} {n2 n3 k : Nat} {A2 : Option Addr} {s1 g g' : List (List Int)} {v4 : Value} {q : Int} (h : LawSt w n2 n3 A2 s1 v4 g W) (hm : laws_markIntSS.f k g 1 = some (q, g')) :
    Calls Try.prog 15 #[v4, .int .i64 1] W fun e w' => e = .returned (.int .i64 q) ∧ LawSt w n2 n3 A2 s1 v4 g' w' :=
  (laws_markIntSS.calls k (fun k => n3 ≤ k) v4 g 1 q g' w W h.below h.r4 hm).mono fun e w' ⟨he, hr, hb, hk⟩ => ⟨he, ⟨hb, h.le, Kd.F_kept h.f2 hk (fun k h1 h2 => by have := h.le; omega), hr⟩⟩
theorem LawSt.arg_ {w W : World} {n2 n3 k : Nat} {A2 : Option Addr} {s1 g : List (List Int)} {v4 v3 : Value} {t t' : List Int} {m : Int} (h : LawSt w n2 n3 A2 s1 v4 g W) (hr : Kd.R (Kd.int .i64) 3 W w.heap.size (fun k => n2 ≤ k ∧ k < n3) v3 t) (hm : laws_markIntS.f k t 1 = some (m, t')) :
    Calls Try.prog 27 #[v3, .int .i64 1] W fun e w' => e = .returned (.int .i64 m) ∧ LawSt w n2 n3 A2 s1 v4 g w' :=
  (laws_markIntS.calls k (fun k => n2 ≤ k ∧ k < n3) v3 t 1 m t' w W h.below hr hm).mono fun e w' ⟨he, _, hb, hk⟩ => ⟨he, ⟨hb, h.le, Kd.F_kept h.f2 hk (fun k h1 h2 => by omega), h.r4.kept hk (fun k h1 h2 => by omega)⟩⟩
def laws_FnExactRingsBefore.f (k : Nat) (l0 : List Int) : Option Bool := if (l0.length : Int) > 1048576 then some true else (laws_toIntS.f k l0).bind fun t => (spec_RingsBefore.f k t).bind fun s => (impl_RingsBefore.f k t).bind fun g => (laws_eqIntSS.f k g.1 s.1).bind fun b1 => (laws_eqIntS.f k t t).bind fun b2 => (laws_markIntS.f k t 1).bind fun m1 => (laws_markIntSS.f k g.1 1).bind fun m => (laws_heldIntSS.f k m.2 1).bind fun q => if g.2 = s.2 then (if b1 = true then (if b2 = true then (if 0 ≤ m1.1 then (if 0 ≤ q then (if q = m.1 then some true else none) else none) else none) else none) else none) else none
set_option maxHeartbeats 8000000 in
set_option maxRecDepth 100000 in
theorem laws_FnExactRingsBefore.calls (k : Nat) (A0 : Option Addr) (c0 : Nat) (l0 : List Int) (r : Bool) (w : World) (hr0 : Kd.C (Kd.int .i64) w A0 l0.length l0) (hc0 : l0.length ≤ c0) (h : laws_FnExactRingsBefore.f k l0 = some r) :
    Calls Try.prog 7 #[.slice A0 l0.length c0] w fun e w' => e = .returned (.bool r) ∧ Below w.heap.size w w' := by
  have HR := Aside0.mk hr0
  have HC := Aside0.mk hc0
  clear hr0 hc0
  unfold laws_FnExactRingsBefore.f at h
  by_cases c1 : (l0.length : Int) > 1048576
  · rw [if_pos c1] at h
    cases h
    have c1b : decide (1048576 < (l0.length : Int)) = true := decide_eq_true c1
    have c1c : decide (1048576 < l0.length) = true := decide_eq_true (by omega)
    clear c1
    go_enter Try.func7, Try.ntmps7
    go_wp2
    go_ret
    exact ⟨rfl, Below.refl _ _⟩
  · rw [if_neg c1] at h
    have c1b : decide (1048576 < (l0.length : Int)) = false := decide_eq_false c1
    have c1c : decide (1048576 < l0.length) = false := decide_eq_false (by omega)
    clear c1
    have hx := Option.bind_eq_some_iff.mp h
    clear h
    obtain ⟨t, h1, h⟩ := hx
    have hx := Option.bind_eq_some_iff.mp h
    clear h
    obtain ⟨⟨s1, s2⟩, h2, h⟩ := hx
    have hx := Option.bind_eq_some_iff.mp h
    clear h
    obtain ⟨⟨g1, g2⟩, h3, h⟩ := hx
    have hx := Option.bind_eq_some_iff.mp h
    clear h
    obtain ⟨b1, h4, h⟩ := hx
    have hx := Option.bind_eq_some_iff.mp h
    clear h
    obtain ⟨b2, h5, h⟩ := hx
    have hx := Option.bind_eq_some_iff.mp h
    clear h
    obtain ⟨⟨m1, m1'⟩, h6, h⟩ := hx
    have hx := Option.bind_eq_some_iff.mp h
    clear h
    obtain ⟨⟨m, g'⟩, h7, h⟩ := hx
    have hx := Option.bind_eq_some_iff.mp h
    clear h
    obtain ⟨q, h8, h⟩ := hx
    dsimp only at h h1 h2 h3 h4 h5 h6 h7 h8
    by_cases d1 : g2 = s2
    case neg => rw [if_neg d1] at h; cases h
    by_cases d2 : b1 = true
    case neg => rw [if_pos d1, if_neg d2] at h; cases h
    by_cases d3 : b2 = true
    case neg => rw [if_pos d1, if_pos d2, if_neg d3] at h; cases h
    by_cases d4 : 0 ≤ m1
    case neg => rw [if_pos d1, if_pos d2, if_pos d3, if_neg d4] at h; cases h
    by_cases d5 : 0 ≤ q
    case neg => rw [if_pos d1, if_pos d2, if_pos d3, if_pos d4, if_neg d5] at h; cases h
    by_cases d6 : q = m
    case neg => rw [if_pos d1, if_pos d2, if_pos d3, if_pos d4, if_pos d5, if_neg d6] at h; cases h
    rw [if_pos d1, if_pos d2, if_pos d3, if_pos d4, if_pos d5, if_pos d6] at h
    cases h
    subst d1 d2 d3 d6
    have e1 : (g2 != g2) = false := by cases g2 <;> rfl
    have e2 : decide (m1 < 0) = false := decide_eq_false (by omega)
    have e3 : decide (q < 0) = false := decide_eq_false (by omega)
    have e4 : (q != q) = false := by simp
    have H1 := Aside0.mk h1
    have H2 := Aside0.mk h2
    have H3 := Aside0.mk h3
    have H4 := Aside0.mk h4
    have H5 := Aside0.mk h5
    have H6 := Aside0.mk h6
    have H7 := Aside0.mk h7
    have H8 := Aside0.mk h8
    clear h1 h2 h3 h4 h5 h6 h7 h8 d4 d5
    have T1 : Aside0 True := ⟨trivial⟩
    have T2 : Aside0 True := ⟨trivial⟩
    have T3 : Aside0 True := ⟨trivial⟩
    have T4 : Aside0 True := ⟨trivial⟩
    have T5 : Aside0 True := ⟨trivial⟩
    have T6 : Aside0 True := ⟨trivial⟩
    have T7 : Aside0 True := ⟨trivial⟩
    have T8 : Aside0 True := ⟨trivial⟩
    have T9 : Aside0 True := ⟨trivial⟩
    have T10 : Aside0 True := ⟨trivial⟩
    have T11 : Aside0 True := ⟨trivial⟩
    have T12 : Aside0 True := ⟨trivial⟩
    have T13 : Aside0 True := ⟨trivial⟩
    have T14 : Aside0 True := ⟨trivial⟩
    have T15 : Aside0 True := ⟨trivial⟩
    go_enter Try.func7, Try.ntmps7
    go_wp2_with (first | (clear T1; go_at_call 20; refine (laws_toIntS.calls k A0 c0 l0 t _ HR.out HC.out H1.out).mono ?_; rintro e w1 ⟨v1, rfl, hr1, hb1⟩; obtain ⟨A1, c1, rfl⟩ := Kd.R_slice hr1; have HB := Aside0.mk hb1; have HR1 := Aside0.mk hr1; clear hb1 hr1) | (clear T2; go_at_call 25; refine (spec_RingsBefore.calls k A1 c1 t s1 g2 _ (Kd.R_reads' HR1.out).2.2 (Kd.R_reads' HR1.out).2.1 H2.out).mono ?_; rintro e w2 ⟨v2, rfl, hr2, hb2⟩; obtain ⟨A2, c2, rfl, f2, l2⟩ := (by first | exact LawSt.slS hr2 | exact LawSt.slR hr2 | exact LawSt.slQ hr2 : ∃ A c, v2 = .slice A s1.length c ∧ Kd.F (Kd.slice 3 (Kd.int .i64)) w2 (fun k => k < w2.heap.size) A s1.length s1 ∧ s1.length ≤ c); have HF := Aside0.mk f2; have HL := Aside0.mk l2; have nB := Aside0.mk (below_step HB.out hb2); clear HB HR1; have HB := nB; clear nB hr2 hb2 f2 l2) | (clear T3; go_at_call 20; refine (laws_toIntS.calls k A0 c0 l0 t _ (Kd.C_below HR.out HB.out) HC.out H1.out).mono ?_; rintro e w3 ⟨v3, rfl, hr3, hb3⟩; obtain ⟨A3, c3, rfl⟩ := Kd.R_slice hr3; have nF := Aside0.mk (Kd.F_below HF.out hb3); have HR3 := Aside0.mk (LawSt.arg (Kd.R_bound hr3)); have HN := Aside0.mk hb3.size; have HW2 := Aside0.mk HB.out.size; have nB := Aside0.mk (below_step HB.out hb3); clear HB HF; have HB := nB; have HF := nF; clear nB nF hr3 hb3) | (clear T4; go_at_call 26; refine (impl_RingsBefore.callsR k A3 c3 t g1 g2 _ (Kd.R_reads' HR3.out).2.2 (Kd.R_reads' HR3.out).2.1 H3.out).mono ?_; rintro e w4 ⟨v4, rfl, hr4, hb4⟩; obtain ⟨A4, c4, rfl⟩ := hr4.slice; have HS := Aside0.mk (LawSt.mk (below_step HB.out hb4) HN.out (Kd.F_below HF.out hb4) (hr4.lower HB.out.size)); have nR := Aside0.mk (Kd.R_lower (Kd.R_below HR3.out hb4) HW2.out); clear HF HR3 HW2; have HR3 := nR; clear HB nR hr4 hb4) | (clear T5; go_at_call 12; refine (LawSt.eq_ HS.out.r4 HS.out.f2 HL.out H4.out).mono ?_; rintro e w5 ⟨rfl, hd⟩; have nR := Aside0.mk (by obtain ⟨q_, rfl⟩ := hd; exact Kd.R_drewN HR3.out q_ : Kd.R (Kd.int .i64) 3 w5 w.heap.size _ (.slice A3 t.length c3) t); clear HR3; have HR3 := nR; clear nR; have nS := Aside0.mk (HS.out.drawn hd); clear HS; have HS := nS; clear nS hd) | (clear T6; go_at_call 20; refine (laws_toIntS.calls k A0 c0 l0 t _ (Kd.C_below HR.out HS.out.below) HC.out H1.out).mono ?_; rintro e w6 ⟨v6, rfl, hr6, hb6⟩; obtain ⟨A6, c6, rfl⟩ := Kd.R_slice hr6; have HR6 := Aside0.mk hr6; have nR := Aside0.mk (Kd.R_below HR3.out hb6); have nS := Aside0.mk (HS.out.go hb6); clear HS HR3; have HS := nS; have HR3 := nR; clear nS nR hr6 hb6) | (clear T7; go_at_call 22; refine (laws_eqIntS.calls k A3 c3 t A6 c6 t true _ (Kd.R_reads' HR3.out).2.2 (Kd.R_reads' HR3.out).2.1 (Kd.R_reads' HR6.out).2.2 (Kd.R_reads' HR6.out).2.1 H5.out).mono ?_; rintro e w7 ⟨rfl, hd⟩; have nR := Aside0.mk (by obtain ⟨q_, rfl⟩ := hd; exact Kd.R_drewN HR3.out q_ : Kd.R (Kd.int .i64) 3 w7 w.heap.size _ (.slice A3 t.length c3) t); clear HR3 HR6; have HR3 := nR; clear nR; have nS := Aside0.mk (HS.out.drawn hd); clear HS; have HS := nS; clear nS hd) | (clear T8; go_at_call 27; refine (LawSt.arg_ HS.out HR3.out H6.out).mono ?_; rintro e w8 ⟨rfl, hs8⟩; clear HS HR3; have HS := Aside0.mk hs8; clear hs8) | (clear T9; go_at_call 12; refine (LawSt.eq_ HS.out.r4 HS.out.f2 HL.out H4.out).mono ?_; rintro e w9 ⟨rfl, hd⟩; have nS := Aside0.mk (HS.out.drawn hd); clear HS; have HS := nS; clear nS hd) | (clear T10; go_at_call 15; refine (LawSt.mark_ HS.out H7.out).mono ?_; rintro e w10 ⟨rfl, hs10⟩; clear HS; have HS := Aside0.mk hs10; clear hs10) | (clear T11; go_at_call 16; refine (LawSt.held_ HS.out.r4 H8.out).mono ?_; rintro e w11 ⟨rfl, hd⟩; have nS := Aside0.mk (HS.out.drawn hd); clear HS; have HS := nS; clear nS hd) | (clear T12; go_at_call 20; refine (laws_toIntS.calls k A0 c0 l0 t _ (Kd.C_below HR.out HS.out.below) HC.out H1.out).mono ?_; rintro e w12 ⟨v12, rfl, hr12, hb12⟩; obtain ⟨A12, c12, rfl⟩ := Kd.R_slice hr12; have HR12 := Aside0.mk hr12; have nS := Aside0.mk (HS.out.go hb12); clear HS; have HS := nS; clear nS hr12 hb12) | (clear T13; go_at_call 26; refine (impl_RingsBefore.callsR k A12 c12 t g1 g2 _ (Kd.R_reads' HR12.out).2.2 (Kd.R_reads' HR12.out).2.1 H3.out).mono ?_; rintro e w13 ⟨v13, rfl, hr13, hb13⟩; obtain ⟨A13, c13, rfl⟩ := hr13.slice; have HR13 := Aside0.mk hr13; have nS := Aside0.mk (HS.out.go hb13); clear HS HR12; have HS := nS; clear nS hr13 hb13) | (clear T14; go_at_call 12; refine (LawSt.eq_ HR13.out HS.out.f2 HL.out H4.out).mono ?_; rintro e w14 ⟨rfl, hd⟩; clear HR13; have nS := Aside0.mk (HS.out.drawn hd); clear HS; have HS := nS; clear nS hd) | (clear T15; go_at_call 16; refine (LawSt.held_ HS.out.r4 H8.out).mono ?_; rintro e w15 ⟨rfl, hd⟩; have nS := Aside0.mk (HS.out.drawn hd); clear HS; have HS := nS; clear nS hd))
    go_ret
    exact ⟨rfl, HS.out.below⟩


/-- THE ONE PURE STATEMENT of laws_FnExactRingsBefore: yours. -/
def laws_FnExactRingsBefore.Pure : Prop := ∀ (l0 : List Int), l0.length ≤ maxLen → l0.length * 8 ≤ 140737488351232 → (∀ x ∈ l0, (Lit.int .i64 x).wf = true) → ∃ k, laws_FnExactRingsBefore.f k l0 = some true
theorem laws_FnExactRingsBefore.walk (P : laws_FnExactRingsBefore.Pure) (a0 : Option Addr) (len0 cap0 : Nat) (z0 : List Int) (w : World) (w0 : (a0 = none ∧ len0 = 0 ∧ cap0 = 0 ∧ z0 = []) ∨ ∃ x, a0 = some x ∧ len0 ≤ cap0 ∧ cap0 ≤ maxLen ∧ z0.length = cap0 ∧ (∀ i, i < z0.length → w.cell? (x.add i) = some (.int .i64 (z0.getD i 0))) ∧ ∀ n ∈ z0, (Lit.int .i64 n).wf = true) (y0 : len0 * 8 ≤ 140737488351232) :
    Calls Try.prog 7 #[.slice a0 len0 cap0] w fun e w' => e = .returned (.bool true) ∧ Below w.heap.size w w' := by
  obtain ⟨l0, rfl, hr0, hm0, hw0, hc0⟩ := ReadsInt.ofRowC w0
  obtain ⟨k, h⟩ := P l0 hm0 y0 hw0
  refine (laws_FnExactRingsBefore.calls k _ _ l0 true w (Kd.C_of_reads (d := (0 : Int)) (h1 := fun _ => rfl) hr0) hc0 h).mono ?_
  rintro e w' ⟨rfl, hd⟩
  exact ⟨rfl, hd⟩

end Go.Proofs.Ytdiobgmdmeomjaa.PFnExactRingsBefore
