/- FnExactDiffStates: the program's DiffStates and the reference's return one and the same for all arguments, in memory of the call's own, and the arguments stay as they were. Conditions: none beyond the statement's own guard. -/
import Derived.Test.YtglhbjmagfchiaaQDiffStatesx2
import Derived.Test.YtglhbjmagfchiaaQDiffStatesx3
import Derived.Test.YtglhbjmagfchiaaQDiffStatesx6
import Derived.Test.YtglhbjmagfchiaaQDiffStatesx9
import Derived.Test.YtglhbjmagfchiaaQDiffStatesxL
import Derived.Test.YtglhbjmagfchiaaQDiffStatesxDStates
namespace Go.Proofs.Ytglhbjmagfchiaa.Pure
open Go.RowKit Go.Proofs.Ytglhbjmagfchiaa.QDiffStates Go.Proofs.YtglhbjmagfchiaaW.PrintWords Go.Proofs.Ytglhbjmagfchiaa.QOpen Go.Proofs.Ytglhbjmagfchiaa.QEv
set_option linter.unusedVariables false
set_option linter.unusedSimpArgs false
theorem atLoop (l : List S164) (hl : l.length ≤ 24) (nm : ByteArray) : ∀ d i : Nat, i + d = l.length →
    (Ev (fun k => spec_l27At.l0 k l nm (i : Int)) (-1) ∧ Ev (fun k => impl_valueAt.l0 k nm l (l.length : Int) (i : Int)) (0, false)) ∨
    ∃ j : Nat, j < l.length ∧ Ev (fun k => spec_l27At.l0 k l nm (i : Int)) (j : Int) ∧ Ev (fun k => impl_valueAt.l0 k nm l (l.length : Int) (i : Int)) ((rd_T164 l (j : Int)).f1, true) ∧ (rd_T164 l (j : Int)).f0.toList = nm.toList := by
  intro d
  induction d with
  | zero =>
    intro i hi
    refine .inl ⟨Ev.succ ?_, Ev.succ ?_⟩
    · simp only [spec_l27At.l0]
      exact Ev.neg (by omega) (Ev.now _)
    · simp only [impl_valueAt.l0]
      exact Ev.neg (by omega) (Ev.now _)
  | succ d ih =>
    intro i hi
    by_cases c : (rd_T164 l (i : Int)).f0.toList = nm.toList
    · refine .inr ⟨i, by omega, Ev.succ ?_, Ev.succ ?_, c⟩
      · simp only [spec_l27At.l0]
        exact Ev.pos (by omega) (Ev.pos (by omega) (Ev.pos c (Ev.now _)))
      · simp only [impl_valueAt.l0]
        exact Ev.pos (by omega) (Ev.pos (by omega) (Ev.pos (by omega) (Ev.pos c (Ev.now _))))
    · rcases ih (i + 1) (by omega) with ⟨h1, h2⟩ | ⟨j, hj, h1, h2, h3⟩
      · refine .inl ⟨Ev.succ ?_, Ev.succ ?_⟩
        · simp only [spec_l27At.l0, wnat i (by omega)]
          exact Ev.pos (by omega) (Ev.pos (by omega) (Ev.neg c h1))
        · simp only [impl_valueAt.l0, wnat i (by omega)]
          exact Ev.pos (by omega) (Ev.pos (by omega) (Ev.pos (by omega) (Ev.neg c h2)))
      · refine .inr ⟨j, hj, Ev.succ ?_, Ev.succ ?_, h3⟩
        · simp only [spec_l27At.l0, wnat i (by omega)]
          exact Ev.pos (by omega) (Ev.pos (by omega) (Ev.neg c h1))
        · simp only [impl_valueAt.l0, wnat i (by omega)]
          exact Ev.pos (by omega) (Ev.pos (by omega) (Ev.pos (by omega) (Ev.neg c h2)))
theorem at_both (l : List S164) (hl : l.length ≤ 24) (nm : ByteArray) :
    (Ev (fun k => spec_l27At.f k l nm) (-1) ∧ Ev (fun k => impl_valueAt.f k l nm) (0, false)) ∨
    ∃ j : Nat, j < l.length ∧ Ev (fun k => spec_l27At.f k l nm) (j : Int) ∧ Ev (fun k => impl_valueAt.f k l nm) ((rd_T164 l (j : Int)).f1, true) ∧ (rd_T164 l (j : Int)).f0.toList = nm.toList := by
  have h := atLoop l hl nm l.length 0 (by omega)
  simp only [spec_l27At.f, impl_valueAt.f]
  exact h
theorem loop1 (a b : List S164) (ha : a.length ≤ 24) (hb : b.length ≤ 24) : ∀ (d i : Nat) (acc : List S166), i + d = b.length → acc.length ≤ 24 + i →
    ∃ r, Ev (fun k => spec_DiffStates.l1 k a b acc (i : Int)) (r, 0) ∧ Ev (fun k => impl_DiffStates.l1 k a acc b (b.length : Int) (i : Int)) (r, 0) ∧ r.length ≤ 48 := by
  intro d
  induction d with
  | zero =>
    intro i acc hi hacc
    refine ⟨acc, Ev.succ ?_, Ev.succ ?_, by omega⟩
    · simp only [spec_DiffStates.l1]
      exact Ev.neg (by omega) (Ev.now _)
    · simp only [impl_DiffStates.l1]
      exact Ev.neg (by omega) (Ev.now _)
  | succ d ih =>
    intro i acc hi hacc
    obtain ⟨r, g1, g2, g3⟩ := ih (i + 1) acc (by omega) (by omega)
    obtain ⟨s, s1, s2, s3⟩ := ih (i + 1) (acc ++ [(⟨1, (⟨(rd_T164 b (i : Int)).f0, (rd_T164 b (i : Int)).f1⟩ : S164)⟩ : S166)]) (by omega) (by simp; omega)
    rcases at_both a ha (rd_T164 b (i : Int)).f0 with ⟨h1, h2⟩ | ⟨j, hj, h1, h2, h3⟩
    · refine ⟨s, Ev.succ ?_, Ev.succ ?_, s3⟩
      · simp only [spec_DiffStates.l1, wnat i (by omega)]
        exact Ev.pos (by omega) (Ev.pos (by omega) (Ev.bind h1 (Ev.pos (by omega) (Ev.pos (by omega) s1))))
      · simp only [impl_DiffStates.l1, wnat i (by omega)]
        exact Ev.pos (by omega) (Ev.pos (by omega) (Ev.pos (by omega) (Ev.bind h2 (Ev.neg (by simp) (Ev.pos (by omega) s2)))))
    · by_cases e : (rd_T164 a (j : Int)).f1 = (rd_T164 b (i : Int)).f1
      · refine ⟨r, Ev.succ ?_, Ev.succ ?_, g3⟩
        · simp only [spec_DiffStates.l1, wnat i (by omega)]
          exact Ev.pos (by omega) (Ev.pos (by omega) (Ev.bind h1 (Ev.neg (by omega) (Ev.pos (by omega) (Ev.pos (by omega) (Ev.neg (by simp [h3, e]) g1))))))
        · simp only [impl_DiffStates.l1, wnat i (by omega)]
          exact Ev.pos (by omega) (Ev.pos (by omega) (Ev.pos (by omega) (Ev.bind h2 (Ev.pos (by first | rfl | trivial) (Ev.pos e g2)))))
      · refine ⟨s, Ev.succ ?_, Ev.succ ?_, s3⟩
        · simp only [spec_DiffStates.l1, wnat i (by omega)]
          exact Ev.pos (by omega) (Ev.pos (by omega) (Ev.bind h1 (Ev.neg (by omega) (Ev.pos (by omega) (Ev.pos (by omega) (Ev.pos (by simp [h3, e]) (Ev.pos (by omega) s1)))))))
        · simp only [impl_DiffStates.l1, wnat i (by omega)]
          exact Ev.pos (by omega) (Ev.pos (by omega) (Ev.pos (by omega) (Ev.bind h2 (Ev.pos (by first | rfl | trivial) (Ev.neg e (Ev.pos (by omega) s2))))))
theorem loop0 (a b : List S164) (ha : a.length ≤ 24) (hb : b.length ≤ 24) : ∀ (d i : Nat) (acc : List S166), i + d = a.length → acc.length ≤ i →
    ∃ r, Ev (fun k => spec_DiffStates.l0 k a b acc (i : Int)) (r, 0) ∧ Ev (fun k => impl_DiffStates.l0 k a b acc a (a.length : Int) (i : Int)) (r, 0) ∧ r.length ≤ 48 := by
  intro d
  induction d with
  | zero =>
    intro i acc hi hacc
    obtain ⟨r, g1, g2, g3⟩ := loop1 a b ha hb b.length 0 acc (by omega) (by omega)
    refine ⟨r, Ev.succ ?_, Ev.succ ?_, g3⟩
    · simp only [spec_DiffStates.l0]
      exact Ev.neg (by omega) g1
    · simp only [impl_DiffStates.l0]
      exact Ev.neg (by omega) g2
  | succ d ih =>
    intro i acc hi hacc
    rcases at_both b hb (rd_T164 a (i : Int)).f0 with ⟨h1, h2⟩ | ⟨j, hj, h1, h2, h3⟩
    · obtain ⟨s, s1, s2, s3⟩ := ih (i + 1) (acc ++ [(⟨2, (⟨(rd_T164 a (i : Int)).f0, (rd_T164 a (i : Int)).f1⟩ : S164)⟩ : S166)]) (by omega) (by simp; omega)
      refine ⟨s, Ev.succ ?_, Ev.succ ?_, s3⟩
      · simp only [spec_DiffStates.l0, wnat i (by omega)]
        exact Ev.pos (by omega) (Ev.pos (by omega) (Ev.bind h1 (Ev.pos (by omega) (Ev.pos (by omega) s1))))
      · simp only [impl_DiffStates.l0, wnat i (by omega)]
        exact Ev.pos (by omega) (Ev.pos (by omega) (Ev.pos (by omega) (Ev.bind h2 (Ev.neg (by simp) (Ev.pos (by omega) s2)))))
    · obtain ⟨r, g1, g2, g3⟩ := ih (i + 1) acc (by omega) (by omega)
      refine ⟨r, Ev.succ ?_, Ev.succ ?_, g3⟩
      · simp only [spec_DiffStates.l0, wnat i (by omega)]
        exact Ev.pos (by omega) (Ev.pos (by omega) (Ev.bind h1 (Ev.neg (by omega) g1)))
      · simp only [impl_DiffStates.l0, wnat i (by omega)]
        exact Ev.pos (by omega) (Ev.pos (by omega) (Ev.pos (by omega) (Ev.bind h2 (Ev.pos (by first | rfl | trivial) g2))))
theorem diff_both (a b : List S164) (ha : smL sm164 a) (hb : smL sm164 b) : ∃ (r : List S166) (c : Int), Ev (fun k => spec_DiffStates.f k a b) (r, c) ∧ Ev (fun k => impl_DiffStates.f k a b) (r, c) ∧ r.length ≤ 48 := by
  obtain ⟨x, x1, x2, x3⟩ := state_both a ha
  obtain ⟨y, y1, y2, y3⟩ := state_both b hb
  simp only [spec_DiffStates.f, impl_DiffStates.f]
  cases x with
  | false =>
    refine ⟨[], 1, Ev.bind x1 (Ev.neg (by decide) (Ev.succ ?_)), Ev.bind x2 (Ev.neg (by decide) (Ev.succ ?_)), by simp⟩
    · simp only [spec_DiffStates.j0]
      exact Ev.pos (by first | rfl | trivial) (Ev.now _)
    · simp only [impl_DiffStates.j0]
      exact Ev.pos (by first | rfl | trivial) (Ev.now _)
  | true =>
    cases y with
    | false =>
      refine ⟨[], 1, Ev.bind x1 (Ev.pos rfl (Ev.bind y1 (Ev.succ ?_))), Ev.bind x2 (Ev.pos rfl (Ev.bind y2 (Ev.succ ?_))), by simp⟩
      · simp only [spec_DiffStates.j0]
        exact Ev.pos (by first | rfl | trivial) (Ev.now _)
      · simp only [impl_DiffStates.j0]
        exact Ev.pos (by first | rfl | trivial) (Ev.now _)
    | true =>
      obtain ⟨r, g1, g2, g3⟩ := loop0 a b (x3 rfl) (y3 rfl) a.length 0 [] (by omega) (by simp)
      refine ⟨r, 0, Ev.bind x1 (Ev.pos rfl (Ev.bind y1 (Ev.succ ?_))), Ev.bind x2 (Ev.pos rfl (Ev.bind y2 (Ev.succ ?_))), g3⟩
      · simp only [spec_DiffStates.j0]
        exact Ev.neg (by simp) g1
      · simp only [impl_DiffStates.j0]
        exact Ev.neg (by simp) g2
theorem FnExactDiffStates : ∀ (x0 : List (S162)) (x1 : List (S162)), (wfL wf162) x0 → (wfL wf162) x1 → ∃ k, laws_FnExactDiffStates.f k x0 x1 = some true := by
  intro x0 x1 hw0 hw1
  obtain ⟨t, ht, t0, t1, hs⟩ := laws_szSettingS_ev x0 1048576 hw0 (by omega) (by omega)
  refine Ev.rounds (r := true) ?_
  simp only [laws_FnExactDiffStates.f]
  refine Ev.bind ht ?_
  by_cases c : t < 0
  · exact Ev.pos c (Ev.now _)
  refine Ev.neg c ?_
  obtain ⟨u, hu, _, _, hs2⟩ := laws_szSettingS_ev x1 t hw1 (by omega) (by omega)
  refine Ev.bind hu ?_
  by_cases c2 : u < 0
  · exact Ev.pos c2 (Ev.now _)
  refine Ev.neg c2 ?_
  have sa := hs (by omega)
  have sb := hs2 (by omega)
  have sa2 := smL_map cv162 cv162_sm sa
  have sb2 := smL_map cv162 cv162_sm sb
  have ta := laws_toSettingS_ev x0 sa
  have tb := laws_toSettingS_ev x1 sb
  obtain ⟨r, e, h1, h2, h3⟩ := diff_both _ _ sa2 sb2
  have na := sa2.1
  have nb := sb2.1
  have qa := laws_eqSettingS_refl (x0.map cv162) (by omega)
  have qb := laws_eqSettingS_refl (x1.map cv162) (by omega)
  have q1 := laws_eqChangeS_refl r (by omega)
  obtain ⟨ma, ka, _, _⟩ := laws_markSettingS_ev (x0.map cv162) 1 (by omega) (by omega)
  obtain ⟨mb, kb, _, _⟩ := laws_markSettingS_ev (x1.map cv162) (1 + 2 * ((x0.map cv162).length : Int)) (by omega) (by omega)
  obtain ⟨m1, k1, e1, j1⟩ := laws_markChangeS_ev r 1 (by omega) (by omega)
  have v1 := laws_heldChangeS_ev 1 (by omega) m1 (by omega) (by rw [e1]; exact j1)
  rw [e1] at v1
  repeat' first | (with_reducible exact Ev.now _) | ((with_reducible refine Ev.pos ?_ ?_); focus (first | rfl | omega | trivial)) | ((with_reducible refine Ev.neg ?_ ?_); focus (first | omega | (simp; done) | (dsimp only; omega))) | (with_reducible refine Ev.bind ta ?_) | (with_reducible refine Ev.bind tb ?_) | (with_reducible refine Ev.bind h1 ?_) | (with_reducible refine Ev.bind h2 ?_) | (with_reducible refine Ev.bind qa ?_) | (with_reducible refine Ev.bind qb ?_) | (with_reducible refine Ev.bind q1 ?_) | (with_reducible refine Ev.bind ka ?_) | (with_reducible refine Ev.bind kb ?_) | (with_reducible refine Ev.bind k1 ?_) | (with_reducible refine Ev.bind v1 ?_) | (with_reducible refine Ev.bind (Ev.shift ta) ?_) | (with_reducible refine Ev.bind (Ev.shift tb) ?_) | (with_reducible refine Ev.bind (Ev.shift h1) ?_) | (with_reducible refine Ev.bind (Ev.shift h2) ?_) | (with_reducible refine Ev.bind (Ev.shift qa) ?_) | (with_reducible refine Ev.bind (Ev.shift qb) ?_) | (with_reducible refine Ev.bind (Ev.shift q1) ?_) | (with_reducible refine Ev.bind (Ev.shift ka) ?_) | (with_reducible refine Ev.bind (Ev.shift kb) ?_) | (with_reducible refine Ev.bind (Ev.shift k1) ?_) | (with_reducible refine Ev.bind (Ev.shift v1) ?_) | (refine Ev.succ ?_; simp only [laws_FnExactDiffStates.j0]) | (refine Ev.succ ?_; simp only [laws_FnExactDiffStates.j1]) | (refine Ev.succ ?_; simp only [laws_FnExactDiffStates.j2]) | dsimp only
end Go.Proofs.Ytglhbjmagfchiaa.Pure
