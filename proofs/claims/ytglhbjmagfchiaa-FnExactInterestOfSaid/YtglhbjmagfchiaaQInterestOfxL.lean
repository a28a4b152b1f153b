/- The plain laws of the laws' own helpers: sizes, copies, comparisons, marks. Conditions: those that each states. -/
import Derived.Test.YtglhbjmagfchiaaQInterestOfx1
import Derived.Test.YtglhbjmagfchiaaQInterestOfx2
import Derived.Test.YtglhbjmagfchiaaQInterestOfx6
import Derived.Test.YtglhbjmagfchiaaQInterestOfx7
import Derived.Test.YtglhbjmagfchiaaQInterestOfxO
import Derived.Test.YtglhbjmagfchiaaQEv
namespace Go.Proofs.Ytglhbjmagfchiaa.QInterestOf
open Go.RowKit Go.Proofs.YtglhbjmagfchiaaW.PrintWords Go.Proofs.Ytglhbjmagfchiaa.QOpen Go.Proofs.Ytglhbjmagfchiaa.QEv
set_option linter.unusedVariables false
set_option linter.unusedSimpArgs false
def sm150 (x : S150) : Prop := smS x.f0 ∧ smT x.f1 ∧ smT x.f2
theorem laws_szPosting_ev (x : S150) (left : Int) (hx : wf150 x) (h0 : 0 ≤ left) (h1 : left ≤ 1048576) : ∃ t, Ev (fun k => laws_szPosting.f (x.f0) (x.f1) (x.f2) left) t ∧ -1 ≤ t ∧ t ≤ left ∧ (0 ≤ t → sm150 x) := by
  obtain ⟨hx0, hx1, hx2⟩ := hx
  simp only [laws_szPosting.f]
  have hs0 : x.f0.size ≤ 9223372036854775807 := hx0
  have w0 : wrap64 (left - (x.f0.size : Int)) = left - (x.f0.size : Int) := wid (by omega) (by omega)
  simp only [w0]
  by_cases c0 : left - (x.f0.size : Int) < 0
  · exact ⟨-1, Ev.pos c0 (Ev.now _), by omega, by omega, fun h => absurd h (by omega)⟩
  exact ⟨(left - (x.f0.size : Int)), Ev.neg c0 (Ev.now _), by omega, by omega, fun h => ⟨(show x.f0.size ≤ 1048576 by omega), trivial, trivial⟩⟩
theorem laws_szPostingS_l0 (l : List (S150)) (hw : (wfL wf150) l) : ∀ (d i : Nat) (left : Int), i + d = l.length → 0 ≤ left → left ≤ 1048576 →
    ∃ t, Ev (fun k => laws_szPostingS.l0 k l left (i : Int)) t ∧ -1 ≤ t ∧ t ≤ left ∧ (0 ≤ t → ∀ j, i ≤ j → j < l.length → sm150 (l.getD j z150)) := by
  intro d
  induction d with
  | zero =>
    intro i left hi h0 h1
    refine ⟨left, ?_, by omega, by omega, fun _ j hj hj2 => by omega⟩
    refine Ev.succ ?_
    simp only [laws_szPostingS.l0]
    exact Ev.neg (by omega) (Ev.now _)
  | succ d ih =>
    intro i left hi h0 h1
    have hlt : i < l.length := by omega
    have hl := hw.1
    obtain ⟨t, ht, ht0, ht1, ht2⟩ := laws_szPosting_ev (rd_T150 l (i : Int)) left (wfL_get hw _ hlt) h0 h1
    by_cases hn : t < 0
    · refine ⟨-1, ?_, by omega, by omega, fun h => absurd h (by omega)⟩
      refine Ev.succ ?_
      simp only [laws_szPostingS.l0]
      refine Ev.pos (by omega) (Ev.pos (by omega) (Ev.bind ht ?_))
      exact Ev.pos hn (Ev.now _)
    · obtain ⟨u, hu, hu0, hu1, hu2⟩ := ih (i + 1) t (by omega) (by omega) (by omega)
      refine ⟨u, ?_, hu0, by omega, fun h j hj hj2 => ?_⟩
      · refine Ev.succ ?_
        simp only [laws_szPostingS.l0]
        refine Ev.pos (by omega) (Ev.pos (by omega) (Ev.bind ht ?_))
        refine Ev.neg hn ?_
        rw [wnat i (by omega)]
        exact hu
      · by_cases e : j = i
        · subst e; exact ht2 (by omega)
        · exact hu2 h j (by omega) hj2
theorem laws_szPostingS_ev (l : List (S150)) (left : Int) (hw : (wfL wf150) l) (h0 : 0 ≤ left) (h1 : left ≤ 1048576) : ∃ t, Ev (fun k => laws_szPostingS.f k l left) t ∧ -1 ≤ t ∧ t ≤ left ∧ (0 ≤ t → (smL sm150) l) := by
  have hl := hw.1
  have w0 : wrap64 (left - (l.length : Int)) = left - (l.length : Int) := wid (by omega) (by omega)
  simp only [laws_szPostingS.f, w0]
  by_cases c : left - (l.length : Int) < 0
  · exact ⟨-1, Ev.pos c (Ev.now _), by omega, by omega, fun h => absurd h (by omega)⟩
  · obtain ⟨u, hu, hu0, hu1, hu2⟩ := laws_szPostingS_l0 l hw l.length 0 (left - (l.length : Int)) (by omega) (by omega) (by omega)
    exact ⟨u, Ev.neg c hu, hu0, by omega, fun h => smL_of z150 (by omega) (fun j hj => hu2 h j (by omega) hj)⟩
def cv150 (x : S150) : S154 := ⟨x.f0, x.f1, x.f2⟩
def sm154 (x : S154) : Prop := smS x.f0 ∧ smT x.f1 ∧ smT x.f2
theorem cv150_sm (x : S150) (h : sm150 x) : sm154 (cv150 x) := ⟨h.1, h.2.1, h.2.2⟩
theorem laws_toPosting_ev (x : S150) (hx : sm150 x) : Ev (fun k => laws_toPosting.f (x.f0) (x.f1) (x.f2)) ((cv150 x).f0, (cv150 x).f1, (cv150 x).f2) := by
  simp only [laws_toPosting.f]
  exact Ev.now _
theorem laws_toPostingS_l0 (l : List (S150)) (hs : (smL sm150) l) : ∀ (d i : Nat) (acc : List (S154)), i + d = l.length → acc.length = l.length → (∀ j, j < i → acc.getD j z154 = (cv150 (l.getD j z150))) →
    Ev (fun k => laws_toPostingS.l0 k l acc (i : Int)) (l.map cv150) := by
  intro d
  induction d with
  | zero =>
    intro i acc hi ha hj
    refine Ev.succ ?_
    simp only [laws_toPostingS.l0]
    refine Ev.neg (by omega) (Ev.eqn (Ev.now _) ?_)
    refine ext_getD z154 (by simp [ha]) (fun j h => ?_)
    rw [hj j (by omega), getD_map cv150 l j z150 z154 (by omega)]
  | succ d ih =>
    intro i acc hi ha hj
    have hl := hs.1
    have hlt : i < l.length := by omega
    refine Ev.succ ?_
    simp only [laws_toPostingS.l0]
    refine Ev.pos (by omega) (Ev.pos (by omega) (Ev.bind (laws_toPosting_ev (rd_T150 l (i : Int)) (smL_get hs _ hlt)) (Ev.pos (by omega) ?_)))
    rw [wnat i (by omega)]
    refine ih (i + 1) _ (by omega) (by simp [ha]) (fun j hj2 => ?_)
    refine (getD_set acc i j _ z154 (by omega)).trans ?_
    by_cases e : j = i
    · subst e; rw [if_pos rfl]; rfl
    · rw [if_neg e]; exact hj j (by omega)
theorem laws_toPostingS_ev (l : List (S150)) (hs : (smL sm150) l) : Ev (fun k => laws_toPostingS.f k l) (l.map cv150) := by
  have hl := hs.1
  simp only [laws_toPostingS.f]
  refine Ev.pos (by omega) (Ev.pos (by omega) ?_)
  exact laws_toPostingS_l0 l hs l.length 0 _ (by omega) (by simp) (fun j h => absurd h (by omega))
theorem laws_eqPosting_refl (x : S154) : Ev (fun k => laws_eqPosting.f (x.f0) (x.f1) (x.f2) (x.f0) (x.f1) (x.f2)) true := by
  simp only [laws_eqPosting.f]
  refine Ev.pos (by first | rfl | trivial) ?_
  refine Ev.pos (by first | rfl | trivial) ?_
  refine Ev.pos (by first | rfl | trivial) ?_
  exact Ev.now _
theorem laws_eqPostingS_l0 (l : List (S154)) (hl : l.length ≤ 9223372036854775807) : ∀ (d i : Nat), i + d = l.length → Ev (fun k => laws_eqPostingS.l0 k l l (i : Int)) true := by
  intro d
  induction d with
  | zero =>
    intro i hi
    refine Ev.succ ?_
    simp only [laws_eqPostingS.l0]
    exact Ev.neg (by omega) (Ev.now _)
  | succ d ih =>
    intro i hi
    refine Ev.succ ?_
    simp only [laws_eqPostingS.l0]
    refine Ev.pos (by omega) (Ev.pos (by omega) (Ev.pos (by omega) ?_))
    refine Ev.bind (laws_eqPosting_refl (rd_T154 l (i : Int))) (Ev.pos (by first | rfl | trivial) ?_)
    rw [wnat i (by omega)]
    exact ih (i + 1) (by omega)
theorem laws_eqPostingS_refl (l : List (S154)) (hl : l.length ≤ 9223372036854775807) : Ev (fun k => laws_eqPostingS.f k l l) true := by
  simp only [laws_eqPostingS.f]
  exact Ev.pos (by first | rfl | trivial) (laws_eqPostingS_l0 l hl l.length 0 (by omega))
end Go.Proofs.Ytglhbjmagfchiaa.QInterestOf
