/- FnExactLargestShare: the program's LargestShare and the reference's return one and the same for all arguments, and the arguments stay as they were. Conditions: none beyond the statement's own guard. -/
import Derived.Test.YtionpndhcijmcaaQLargestSharex4
import Derived.Test.YtionpndhcijmcaaQLargestSharex7
import Derived.Test.YtionpndhcijmcaaQLargestSharex8
import Derived.Test.YtionpndhcijmcaaQLargestSharexL
import Derived.Test.YtionpndhcijmcaaQLargestSharexDBill
import Derived.Test.YtionpndhcijmcaaQLargestSharexDIndex
namespace Go.Proofs.Ytionpndhcijmcaa.Pure
open Go.RowKit Go.Proofs.Ytionpndhcijmcaa.QLargestShare Go.Proofs.YtionpndhcijmcaaW.PrintWords Go.Proofs.Ytionpndhcijmcaa.QOpen Go.Proofs.Ytionpndhcijmcaa.QEv
set_option linter.unusedVariables false
set_option linter.unusedSimpArgs false
def firstMax (f : List Int) (g : Nat) : Prop := g < f.length ∧ (∀ j, j < f.length → f.getD j 0 ≤ f.getD g 0) ∧ (∀ j, j < g → f.getD j 0 < f.getD g 0)
theorem maxLoop (f : List Int) (hf : f.length ≤ 12) : ∀ (d i : Nat) (m : Int), i + d = f.length → (∃ j, j < i ∧ f.getD j 0 = m) → (∀ j, j < i → f.getD j 0 ≤ m) →
    ∃ m', Ev (fun k => slices_Max_int64_int64.l0 k f m (i : Int)) m' ∧ (∃ j, j < f.length ∧ f.getD j 0 = m') ∧ (∀ j, j < f.length → f.getD j 0 ≤ m') := by
  intro d
  induction d with
  | zero =>
    intro i m hi h1 h2
    have e : i = f.length := by omega
    subst e
    refine ⟨m, Ev.succ ?_, h1, h2⟩
    simp only [slices_Max_int64_int64.l0]
    exact Ev.neg (by omega) (Ev.now _)
  | succ d ih =>
    intro i m hi h1 h2
    have e0 : rd f (i : Int) = f.getD i 0 := rfl
    by_cases c : m < f.getD i 0
    · obtain ⟨m', g1, g2, g3⟩ := ih (i + 1) (f.getD i 0) (by omega) ⟨i, by omega, rfl⟩ (fun j hj => by
        by_cases e : j = i
        · subst e; omega
        · have := h2 j (by omega); omega)
      refine ⟨m', Ev.succ ?_, g2, g3⟩
      simp only [slices_Max_int64_int64.l0, e0, wnat i (by omega), show mx m (f.getD i 0) = f.getD i 0 from if_pos c]
      exact Ev.pos (by omega) (Ev.pos (by omega) g1)
    · obtain ⟨m', g1, g2, g3⟩ := ih (i + 1) m (by omega) (by obtain ⟨j, a, b⟩ := h1; exact ⟨j, by omega, b⟩) (fun j hj => by
        by_cases e : j = i
        · subst e; omega
        · exact h2 j (by omega))
      refine ⟨m', Ev.succ ?_, g2, g3⟩
      simp only [slices_Max_int64_int64.l0, e0, wnat i (by omega), show mx m (f.getD i 0) = m from if_neg c]
      exact Ev.pos (by omega) (Ev.pos (by omega) g1)
theorem max_ev (f : List Int) (hf : f.length ≤ 12) (g : Nat) (hg : firstMax f g) : Ev (fun k => slices_Max_int64_int64.f k f) (f.getD g 0) := by
  obtain ⟨h1, h2, h3⟩ := hg
  obtain ⟨m', g1, ⟨j, g2, g3⟩, g4⟩ := maxLoop f hf (f.length - 1) 1 (f.getD 0 0) (by omega) ⟨0, by omega, rfl⟩ (fun j hj => by rw [show j = 0 by omega]; omega)
  have e : m' = f.getD g 0 := by
    have a := g4 g h1
    have b := h2 j g2
    omega
  subst e
  simp only [slices_Max_int64_int64.f]
  exact Ev.neg (by omega) (Ev.pos (by omega) g1)
theorem indexMax_ev (f : List Int) (hf : f.length ≤ 12) (g : Nat) (hg : firstMax f g) : Ev (fun k => slices_Index_int64_int64.f k f (f.getD g 0)) (g : Int) := by
  obtain ⟨h1, h2, h3⟩ := hg
  obtain ⟨t, e, h⟩ := indexLoop f (f.getD g 0) (by omega) f.length 0 (by omega)
  simp only [slices_Index_int64_int64.f]
  rcases h with ⟨_, h⟩ | ⟨j, a, _, b, c, d, _⟩
  · exfalso
    rw [List.drop_zero] at h
    have : f.contains (f.getD g 0) = true := by
      rw [List.contains_iff_mem]
      exact getD_mem f g 0 h1
    rw [this] at h
    cases h
  · have : j = g := by
      by_cases e1 : j < g
      · have := h3 j e1; omega
      · by_cases e2 : g < j
        · exact absurd rfl (d g (by omega) e2)
        · omega
    subst this
    exact Ev.eqn e a
theorem bestLoop (f : List Int) (hf : f.length ≤ 12) : ∀ (d i g : Nat), i + d = f.length → g < i → (∀ j, j < i → f.getD j 0 ≤ f.getD g 0) → (∀ j, j < g → f.getD j 0 < f.getD g 0) →
    ∃ g', firstMax f g' ∧ Ev (fun k => spec_LargestShare.l0 k f (g : Int) (i : Int)) ((g' : Int), f.getD g' 0, 0) := by
  intro d
  induction d with
  | zero =>
    intro i g hi hg h1 h2
    have e : i = f.length := by omega
    subst e
    have e1 : rd f (g : Int) = f.getD g 0 := rfl
    refine ⟨g, ⟨hg, h1, h2⟩, Ev.succ ?_⟩
    simp only [spec_LargestShare.l0, e1]
    exact Ev.neg (by omega) (Ev.pos (by omega) (Ev.pos (by omega) (Ev.now _)))
  | succ d ih =>
    intro i g hi hg h1 h2
    have e0 : rd f (i : Int) = f.getD i 0 := rfl
    have e1 : rd f (g : Int) = f.getD g 0 := rfl
    by_cases c : f.getD i 0 > f.getD g 0
    · obtain ⟨g', a, b⟩ := ih (i + 1) i (by omega) (by omega) (fun j hj => by
        by_cases e : j = i
        · subst e; omega
        · have := h1 j (by omega); omega) (fun j hj => by have := h1 j (by omega); omega)
      refine ⟨g', a, Ev.succ ?_⟩
      simp only [spec_LargestShare.l0, e0, e1, wnat i (by omega)]
      exact Ev.pos (by omega) (Ev.pos (by omega) (Ev.pos (by omega) (Ev.pos (by omega) (Ev.pos c b))))
    · obtain ⟨g', a, b⟩ := ih (i + 1) g (by omega) (by omega) (fun j hj => by
        by_cases e : j = i
        · subst e; omega
        · exact h1 j (by omega)) h2
      refine ⟨g', a, Ev.succ ?_⟩
      simp only [spec_LargestShare.l0, e0, e1, wnat i (by omega)]
      exact Ev.pos (by omega) (Ev.pos (by omega) (Ev.pos (by omega) (Ev.pos (by omega) (Ev.neg c b))))
theorem largest_both (l : List S89) (hl : smL sm89 l) (m f : Int) : ∃ (a b c : Int), Ev (fun k => spec_LargestShare.f k l m f) (a, b, c) ∧ Ev (fun k => impl_LargestShare.f k l m f) (a, b, c) := by
  obtain ⟨r, c, h1, h2, h3, h4⟩ := bill_both l hl m f
  simp only [spec_LargestShare.f, impl_LargestShare.f]
  by_cases e : c = 0
  · have hp := h4 e
    obtain ⟨g, hg, b⟩ := bestLoop r h3 (r.length - 1) 1 0 (by omega) (by omega) (fun j hj => by rw [show j = 0 by omega]; omega) (fun j hj => by omega)
    exact ⟨g, r.getD g 0, 0, Ev.bind h1 (Ev.pos e b), Ev.bind h2 (Ev.pos e (Ev.bind (max_ev r h3 g hg) (Ev.bind (indexMax_ev r h3 g hg) (Ev.now _))))⟩
  · exact ⟨0, 0, c, Ev.bind h1 (Ev.neg e (Ev.now _)), Ev.bind h2 (Ev.neg e (Ev.now _))⟩
theorem FnExactLargestShare : ∀ (x0 : List (S83)) (x1 : Int) (x2 : Int), (wfL wf83) x0 → (wfI .i64) x1 → (wfI .i64) x2 → ∃ k, laws_FnExactLargestShare.f k x0 x1 x2 = some true := by
  intro x0 x1 x2 hw0 hw1 hw2
  obtain ⟨t, ht, _, _, hs⟩ := laws_szTenantS_ev x0 1048576 hw0 (by omega) (by omega)
  refine Ev.rounds (r := true) ?_
  simp only [laws_FnExactLargestShare.f]
  refine Ev.bind ht ?_
  by_cases c : t < 0
  · exact Ev.pos c (Ev.now _)
  refine Ev.neg c ?_
  have sm := hs (by omega)
  have sm2 := smL_map cv83 cv83_sm sm
  have hto := laws_toTenantS_ev x0 sm
  obtain ⟨a, b, e, h1, h2⟩ := largest_both _ sm2 x1 x2
  have hn := sm2.1
  have q0 := laws_eqTenantS_refl (x0.map cv83) (by omega)
  repeat' first | (with_reducible exact Ev.now _) | ((with_reducible refine Ev.pos ?_ ?_); focus (first | rfl | omega | trivial)) | ((with_reducible refine Ev.neg ?_ ?_); focus (first | omega | (simp; done) | (dsimp only; omega))) | (with_reducible refine Ev.bind hto ?_) | (with_reducible refine Ev.bind h1 ?_) | (with_reducible refine Ev.bind h2 ?_) | (with_reducible refine Ev.bind q0 ?_) | (with_reducible refine Ev.bind (Ev.shift hto) ?_) | (with_reducible refine Ev.bind (Ev.shift h1) ?_) | (with_reducible refine Ev.bind (Ev.shift h2) ?_) | (with_reducible refine Ev.bind (Ev.shift q0) ?_) | (refine Ev.succ ?_; simp only [laws_FnExactLargestShare.j0]) | dsimp only
end Go.Proofs.Ytionpndhcijmcaa.Pure
