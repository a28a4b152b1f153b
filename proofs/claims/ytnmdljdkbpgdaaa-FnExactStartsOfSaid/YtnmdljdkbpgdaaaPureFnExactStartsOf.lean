/- FnExactStartsOf: the program's StartsOf and the reference's return one and the same for all arguments, the arguments stay as they were, and the answer is nobody else's. Conditions: none beyond the statement's own guard. -/
import Derived.Test.YtnmdljdkbpgdaaaQStartsOfx5
import Derived.Test.YtnmdljdkbpgdaaaQStartsOfx8
import Derived.Test.YtnmdljdkbpgdaaaQStartsOfx9
import Derived.Test.YtnmdljdkbpgdaaaQStartsOfxL
import Derived.Test.YtnmdljdkbpgdaaaQStartsOfxDOnOff
namespace Go.Proofs.Ytnmdljdkbpgdaaa.Pure
open Go.RowKit Go.Proofs.Ytnmdljdkbpgdaaa.QStartsOf Go.Proofs.YtnmdljdkbpgdaaaW.PrintWords Go.Proofs.Ytnmdljdkbpgdaaa.QOpen Go.Proofs.Ytnmdljdkbpgdaaa.QEv
set_option linter.unusedVariables false
set_option linter.unusedSimpArgs false
theorem startsIn (u : List S147) (s : List (List Bool)) (ok : OnOk u s) (h : Nat) (hh : h < s.length) : ∀ (d i : Nat) (o : List Int), i + d = u.length → o.length = u.length →
    ∃ o' : List Int, o'.length = u.length ∧ (∀ r, Ev (fun k => spec_StartsOf.l0 k u s o' ((h + 1 : Nat) : Int)) r → Ev (fun k => spec_StartsOf.l1 k u s o (h : Int) (i : Int)) r) ∧
      (∀ r, Ev (fun k => impl_StartsOf.l0 k u s o' s (s.length : Int) ((h + 1 : Nat) : Int)) r → Ev (fun k => impl_StartsOf.l1 k u s o (h : Int) (rd_L4 s (h : Int)) s (s.length : Int) (h : Int) (u.length : Int) (i : Int)) r) := by
  obtain ⟨u1, u2, s1, s2, hj⟩ := ok
  have er : rd_L4 s (h : Int) = s.getD h [] := rfl
  have hl := hj h hh
  intro d
  induction d with
  | zero =>
    intro i o hi ho
    refine ⟨o, ho, fun r hr => Ev.succ ?_, fun r hr => Ev.succ ?_⟩
    · simp only [spec_StartsOf.l1, wnat h (by omega)]
      exact Ev.neg (by omega) hr
    · simp only [impl_StartsOf.l1, wnat h (by omega)]
      exact Ev.neg (by omega) hr
  | succ d ih =>
    intro i o hi ho
    cases hb : rdOf false (s.getD h []) (i : Int) with
    | true =>
      obtain ⟨o', e, h1, h2⟩ := ih (i + 1) (o.set i (wrap64 (rd o (i : Int) + 1))) (by omega) (by simpa using ho)
      by_cases c0 : h = 0
      · refine ⟨o', e, fun r hr => Ev.succ ?_, fun r hr => Ev.succ ?_⟩
        · have := h1 r hr
          simp only [spec_StartsOf.l1, er, hb, wnat i (by omega), Int.toNat_natCast]
          exact Ev.pos (by omega) (Ev.pos (by omega) (Ev.pos (by omega) (Ev.pos (by omega) (Ev.pos (by omega) (Ev.pos (by trivial) (Ev.pos (by omega) (Ev.pos (by omega) this)))))))
        · have := h2 r hr
          rw [er] at this
          simp only [impl_StartsOf.l1, er, hb, wnat i (by omega), Int.toNat_natCast]
          exact Ev.pos (by omega) (Ev.pos (by omega) (Ev.pos (by omega) (Ev.pos (by trivial) (Ev.pos (by omega) (Ev.pos (by omega) this)))))
      · have w : wrap64 ((h : Int) - 1) = ((h - 1 : Nat) : Int) := by rw [wid (by omega) (by omega)]; omega
        have ep : rd_L4 s ((h - 1 : Nat) : Int) = s.getD (h - 1) [] := rfl
        have hp := hj (h - 1) (by omega)
        cases hq : rdOf false (s.getD (h - 1) []) (i : Int) with
        | true =>
          obtain ⟨o', e, h1, h2⟩ := ih (i + 1) o (by omega) ho
          refine ⟨o', e, fun r hr => Ev.succ ?_, fun r hr => Ev.succ ?_⟩
          · have := h1 r hr
            simp only [spec_StartsOf.l1, er, hb, w, ep, hq, wnat i (by omega), Int.toNat_natCast]
            exact Ev.pos (by omega) (Ev.pos (by omega) (Ev.pos (by omega) (Ev.pos (by omega) (Ev.pos (by omega) (Ev.pos (by trivial) (Ev.neg (by omega) (Ev.pos (by omega) (Ev.pos (by omega) (Ev.pos (by omega) (Ev.pos (by trivial) this))))))))))
          · have := h2 r hr
            rw [er] at this
            simp only [impl_StartsOf.l1, er, hb, w, ep, hq, wnat i (by omega), Int.toNat_natCast]
            exact Ev.pos (by omega) (Ev.pos (by omega) (Ev.pos (by omega) (Ev.pos (by trivial) (Ev.neg (by omega) (Ev.pos (by omega) (Ev.pos (by omega) (Ev.pos (by omega) (Ev.pos (by trivial) this))))))))
        | false =>
          refine ⟨o', e, fun r hr => Ev.succ ?_, fun r hr => Ev.succ ?_⟩
          · have := h1 r hr
            simp only [spec_StartsOf.l1, er, hb, w, ep, hq, wnat i (by omega), Int.toNat_natCast]
            exact Ev.pos (by omega) (Ev.pos (by omega) (Ev.pos (by omega) (Ev.pos (by omega) (Ev.pos (by omega) (Ev.pos (by trivial) (Ev.neg (by omega) (Ev.pos (by omega) (Ev.pos (by omega) (Ev.pos (by omega) (Ev.neg (by simp) (Ev.pos (by omega) this)))))))))))
          · have := h2 r hr
            rw [er] at this
            simp only [impl_StartsOf.l1, er, hb, w, ep, hq, wnat i (by omega), Int.toNat_natCast]
            exact Ev.pos (by omega) (Ev.pos (by omega) (Ev.pos (by omega) (Ev.pos (by trivial) (Ev.neg (by omega) (Ev.pos (by omega) (Ev.pos (by omega) (Ev.pos (by omega) (Ev.neg (by simp) (Ev.pos (by omega) this)))))))))
    | false =>
      obtain ⟨o', e, h1, h2⟩ := ih (i + 1) o (by omega) ho
      refine ⟨o', e, fun r hr => Ev.succ ?_, fun r hr => Ev.succ ?_⟩
      · have := h1 r hr
        simp only [spec_StartsOf.l1, er, hb, wnat i (by omega)]
        exact Ev.pos (by omega) (Ev.pos (by omega) (Ev.pos (by omega) (Ev.pos (by omega) (Ev.pos (by omega) (Ev.neg (by simp) this)))))
      · have := h2 r hr
        rw [er] at this
        simp only [impl_StartsOf.l1, er, hb, wnat i (by omega)]
        exact Ev.pos (by omega) (Ev.pos (by omega) (Ev.pos (by omega) (Ev.neg (by simp) this)))
theorem startsOut (u : List S147) (s : List (List Bool)) (ok : OnOk u s) : ∀ (d h : Nat) (o : List Int), h + d = s.length → o.length = u.length →
    ∃ r : List Int, Ev (fun k => spec_StartsOf.l0 k u s o (h : Int)) (r, 0) ∧ Ev (fun k => impl_StartsOf.l0 k u s o s (s.length : Int) (h : Int)) (r, 0) ∧ r.length = u.length := by
  intro d
  induction d with
  | zero =>
    intro h o hi ho
    refine ⟨o, Ev.succ ?_, Ev.succ ?_, ho⟩
    · simp only [spec_StartsOf.l0]
      exact Ev.neg (by omega) (Ev.now _)
    · simp only [impl_StartsOf.l0]
      exact Ev.neg (by omega) (Ev.now _)
  | succ d ih =>
    intro h o hi ho
    obtain ⟨o', e, h1, h2⟩ := startsIn u s ok h (by omega) u.length 0 o (by omega) ho
    obtain ⟨r, k1, k2, k3⟩ := ih (h + 1) o' (by omega) e
    refine ⟨r, Ev.succ ?_, Ev.succ ?_, k3⟩
    · simp only [spec_StartsOf.l0]
      exact Ev.pos (by omega) (h1 _ k1)
    · simp only [impl_StartsOf.l0]
      exact Ev.pos (by omega) (Ev.pos (by omega) (Ev.pos (by omega) (h2 _ k2)))
theorem starts_both (u : List S147) (hu : smL sm147 u) (s : List (List Bool)) (hs : s.length ≤ 1048576) : ∃ (r : List Int) (c : Int), Ev (fun k => spec_StartsOf.f k u s) (r, c) ∧ Ev (fun k => impl_StartsOf.f k u s) (r, c) ∧ r.length ≤ 4 := by
  simp only [spec_StartsOf.f, impl_StartsOf.f]
  rcases onoff_both u hu s hs with ⟨h1, h2⟩ | ⟨h1, h2, h3⟩ | ⟨h1, h2, h3, ok⟩
  · exact ⟨[], 1, Ev.bind h1 (Ev.neg (by decide) (Ev.now _)), Ev.bind h2 (Ev.neg (by decide) (Ev.now _)), by simp⟩
  · exact ⟨[], 7, Ev.bind h1 (Ev.pos rfl (Ev.bind h2 (Ev.neg (by decide) (Ev.now _)))), Ev.bind h3 (Ev.neg (by decide) (Ev.now _)), by simp⟩
  · have hn := ok.2.1
    obtain ⟨r, k1, k2, k3⟩ := startsOut u s ok s.length 0 (List.replicate (((u.length : Int) : Int).toNat) 0) (by omega) (by simp)
    exact ⟨r, 0, Ev.bind h1 (Ev.pos rfl (Ev.bind h2 (Ev.pos rfl (Ev.pos (by omega) (Ev.pos (by omega) k1))))), Ev.bind h3 (Ev.pos rfl (Ev.pos (by omega) (Ev.pos (by omega) k2))), by omega⟩
theorem FnExactStartsOf : ∀ (x0 : List (S142)) (x1 : List (List Bool)), (wfL wf142) x0 → (wfL (wfL wfB)) x1 → ∃ k, laws_FnExactStartsOf.f k x0 x1 = some true := by
  intro x0 x1 hw0 hw1
  refine Ev.rounds (r := true) ?_
  simp only [laws_FnExactStartsOf.f]
  obtain ⟨t, ht, t0, t1, hs⟩ := laws_szUnitS_ev x0 1048576 hw0 (by omega) (by omega)
  refine Ev.bind ht ?_
  by_cases c : t < 0
  · exact Ev.pos c (Ev.now _)
  refine Ev.neg c ?_
  obtain ⟨t2, ht2, _, _, hs2⟩ := laws_szBoolSS_ev x1 t hw1 (by omega) (by omega)
  refine Ev.bind ht2 ?_
  by_cases c2 : t2 < 0
  · exact Ev.pos c2 (Ev.now _)
  refine Ev.neg c2 ?_
  have sm := hs (by omega)
  have smu := smL_map cv142 cv142_sm sm
  have smb := hs2 (by omega)
  have hto := laws_toUnitS_ev x0 sm
  have htb := laws_toBoolSS_ev x1 smb
  rw [List.map_id'] at htb
  obtain ⟨r, e, h1, h2, h3⟩ := starts_both _ smu x1 smb.1
  have q0 := laws_eqUnitS_refl (x0.map cv142) (by have := smu.1; omega)
  have q1 := laws_eqBoolSS_refl x1 smb
  have q2 := laws_eqInt64S_refl r (by omega)
  have hu1 := smu.1
  obtain ⟨m0, k0, _, _⟩ := laws_markUnitS_ev (x0.map cv142) 1 (by omega) (by omega)
  obtain ⟨b2, m2, k2, b3, b4⟩ := laws_markBoolSS_some x1 smb (1 + 7 * ((x0.map cv142).length : Int)) (by omega) (by omega)
  obtain ⟨m1, k1, e1, j1⟩ := laws_markInt64S_ev r 1 (by omega) (by omega)
  have v1 := laws_heldInt64S_ev 1 (by omega) m1 (by omega) (by rw [e1]; exact j1)
  rw [e1] at v1
  repeat' first | (with_reducible exact Ev.now _) | (with_reducible exact hto) | (with_reducible exact htb) | (with_reducible exact h1) | (with_reducible exact h2) | (with_reducible exact q0) | (with_reducible exact q1) | (with_reducible exact q2) | (with_reducible exact k0) | (with_reducible exact k2) | (with_reducible exact k1) | (with_reducible exact v1) | ((with_reducible refine Ev.pos ?_ ?_); focus (first | with_reducible assumption | with_reducible rfl | omega | rfl | trivial)) | ((with_reducible refine Ev.neg ?_ ?_); focus (first | with_reducible assumption | omega | (simp; done) | (dsimp only; omega))) | (with_reducible refine Ev.bind hto ?_) | (with_reducible refine Ev.bind htb ?_) | (with_reducible refine Ev.bind h1 ?_) | (with_reducible refine Ev.bind h2 ?_) | (with_reducible refine Ev.bind q0 ?_) | (with_reducible refine Ev.bind q1 ?_) | (with_reducible refine Ev.bind q2 ?_) | (with_reducible refine Ev.bind k0 ?_) | (with_reducible refine Ev.bind k2 ?_) | (with_reducible refine Ev.bind k1 ?_) | (with_reducible refine Ev.bind v1 ?_) | (with_reducible refine Ev.bind (Ev.shift hto) ?_) | (with_reducible refine Ev.bind (Ev.shift htb) ?_) | (with_reducible refine Ev.bind (Ev.shift h1) ?_) | (with_reducible refine Ev.bind (Ev.shift h2) ?_) | (with_reducible refine Ev.bind (Ev.shift q0) ?_) | (with_reducible refine Ev.bind (Ev.shift q1) ?_) | (with_reducible refine Ev.bind (Ev.shift q2) ?_) | (with_reducible refine Ev.bind (Ev.shift k0) ?_) | (with_reducible refine Ev.bind (Ev.shift k2) ?_) | (with_reducible refine Ev.bind (Ev.shift k1) ?_) | (with_reducible refine Ev.bind (Ev.shift v1) ?_) | (refine Ev.succ ?_; simp only [laws_FnExactStartsOf.j0]) | (refine Ev.succ ?_; simp only [laws_FnExactStartsOf.j1]) | (refine Ev.succ ?_; simp only [laws_FnExactStartsOf.j2]) | (with_reducible refine Ev.sb ?_) | dsimp only
end Go.Proofs.Ytnmdljdkbpgdaaa.Pure
