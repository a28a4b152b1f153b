/- The plain laws of the laws' own helpers: sizes, copies, comparisons, marks. Conditions: those that each states. -/
import Derived.Test.YtamiipnoeffjkaaQOutdoorForx1
import Derived.Test.YtamiipnoeffjkaaQOutdoorForx3
import Derived.Test.YtamiipnoeffjkaaQOutdoorForx7
import Derived.Test.YtamiipnoeffjkaaQOutdoorForx8
import Derived.Test.YtamiipnoeffjkaaQOutdoorForxO
import Derived.Test.YtamiipnoeffjkaaQEv
namespace Go.Proofs.Ytamiipnoeffjkaa.QOutdoorFor
open Go.RowKit Go.Proofs.YtamiipnoeffjkaaW.PrintWords Go.Proofs.Ytamiipnoeffjkaa.QOpen Go.Proofs.Ytamiipnoeffjkaa.QEv
set_option linter.unusedVariables false
set_option linter.unusedSimpArgs false
theorem laws_szInt64S_ev (l : List Int) (left : Int) (hw : (wfL (wfI .i64)) l) (h0 : 0 ≤ left) (h1 : left ≤ 1048576) : ∃ t, Ev (fun k => laws_szInt64S.f l left) t ∧ -1 ≤ t ∧ t ≤ left ∧ (0 ≤ t → (smL smT) l) := by
  have hl := hw.1
  have w0 : wrap64 (left - (l.length : Int)) = left - (l.length : Int) := wid (by omega) (by omega)
  simp only [laws_szInt64S.f, w0]
  by_cases c : left - (l.length : Int) < 0
  · exact ⟨-1, Ev.pos c (Ev.now _), by omega, by omega, fun h => absurd h (by omega)⟩
  · exact ⟨_, Ev.neg c (Ev.now _), by omega, by omega, fun _ => ⟨by omega, fun _ _ => trivial⟩⟩
def sm153 (x : S153) : Prop := smS x.f0 ∧ smT x.f1 ∧ smT x.f2 ∧ smT x.f3 ∧ smT x.f4 ∧ (smL smT) x.f5
theorem laws_szBuilding_ev (x : S153) (left : Int) (hx : wf153 x) (h0 : 0 ≤ left) (h1 : left ≤ 1048576) : ∃ t, Ev (fun k => laws_szBuilding.f (x.f0) (x.f1) (x.f2) (x.f3) (x.f4) (x.f5) left) t ∧ -1 ≤ t ∧ t ≤ left ∧ (0 ≤ t → sm153 x) := by
  obtain ⟨hx0, hx1, hx2, hx3, hx4, hx5⟩ := hx
  simp only [laws_szBuilding.f]
  have hs0 : x.f0.size ≤ 9223372036854775807 := hx0
  have w0 : wrap64 (left - (x.f0.size : Int)) = left - (x.f0.size : Int) := wid (by omega) (by omega)
  simp only [w0]
  by_cases c0 : left - (x.f0.size : Int) < 0
  · exact ⟨-1, Ev.pos c0 (Ev.now _), by omega, by omega, fun h => absurd h (by omega)⟩
  obtain ⟨t5, e5, a5, b5, s5⟩ := laws_szInt64S_ev x.f5 (left - (x.f0.size : Int)) hx5 (by omega) (by omega)
  by_cases c5 : t5 < 0
  · exact ⟨-1, Ev.neg c0 (Ev.bind e5 (Ev.pos c5 (Ev.now _))), by omega, by omega, fun h => absurd h (by omega)⟩
  exact ⟨t5, Ev.neg c0 (Ev.bind e5 (Ev.neg c5 (Ev.now _))), by omega, by omega, fun h => ⟨(show x.f0.size ≤ 1048576 by omega), trivial, trivial, trivial, trivial, s5 (by omega)⟩⟩
theorem laws_szBuildingS_l0 (l : List (S153)) (hw : (wfL wf153) l) : ∀ (d i : Nat) (left : Int), i + d = l.length → 0 ≤ left → left ≤ 1048576 →
    ∃ t, Ev (fun k => laws_szBuildingS.l0 k l left (i : Int)) t ∧ -1 ≤ t ∧ t ≤ left ∧ (0 ≤ t → ∀ j, i ≤ j → j < l.length → sm153 (l.getD j z153)) := by
  intro d
  induction d with
  | zero =>
    intro i left hi h0 h1
    refine ⟨left, ?_, by omega, by omega, fun _ j hj hj2 => by omega⟩
    refine Ev.succ ?_
    simp only [laws_szBuildingS.l0]
    exact Ev.neg (by omega) (Ev.now _)
  | succ d ih =>
    intro i left hi h0 h1
    have hlt : i < l.length := by omega
    have hl := hw.1
    obtain ⟨t, ht, ht0, ht1, ht2⟩ := laws_szBuilding_ev (rd_T153 l (i : Int)) left (wfL_get hw _ hlt) h0 h1
    by_cases hn : t < 0
    · refine ⟨-1, ?_, by omega, by omega, fun h => absurd h (by omega)⟩
      refine Ev.succ ?_
      simp only [laws_szBuildingS.l0]
      refine Ev.pos (by omega) (Ev.pos (by omega) (Ev.bind ht ?_))
      exact Ev.pos hn (Ev.now _)
    · obtain ⟨u, hu, hu0, hu1, hu2⟩ := ih (i + 1) t (by omega) (by omega) (by omega)
      refine ⟨u, ?_, hu0, by omega, fun h j hj hj2 => ?_⟩
      · refine Ev.succ ?_
        simp only [laws_szBuildingS.l0]
        refine Ev.pos (by omega) (Ev.pos (by omega) (Ev.bind ht ?_))
        refine Ev.neg hn ?_
        rw [wnat i (by omega)]
        exact hu
      · by_cases e : j = i
        · subst e; exact ht2 (by omega)
        · exact hu2 h j (by omega) hj2
theorem laws_szBuildingS_ev (l : List (S153)) (left : Int) (hw : (wfL wf153) l) (h0 : 0 ≤ left) (h1 : left ≤ 1048576) : ∃ t, Ev (fun k => laws_szBuildingS.f k l left) t ∧ -1 ≤ t ∧ t ≤ left ∧ (0 ≤ t → (smL sm153) l) := by
  have hl := hw.1
  have w0 : wrap64 (left - (l.length : Int)) = left - (l.length : Int) := wid (by omega) (by omega)
  simp only [laws_szBuildingS.f, w0]
  by_cases c : left - (l.length : Int) < 0
  · exact ⟨-1, Ev.pos c (Ev.now _), by omega, by omega, fun h => absurd h (by omega)⟩
  · obtain ⟨u, hu, hu0, hu1, hu2⟩ := laws_szBuildingS_l0 l hw l.length 0 (left - (l.length : Int)) (by omega) (by omega) (by omega)
    exact ⟨u, Ev.neg c hu, hu0, by omega, fun h => smL_of z153 (by omega) (fun j hj => hu2 h j (by omega) hj)⟩
theorem laws_toInt64S_l0 (l : List Int) (hs : (smL smT) l) : ∀ (d i : Nat) (acc : List Int), i + d = l.length → acc.length = l.length → (∀ j, j < i → acc.getD j 0 = (l.getD j 0)) →
    Ev (fun k => laws_toInt64S.l0 k l acc (i : Int)) l := by
  intro d
  induction d with
  | zero =>
    intro i acc hi ha hj
    refine Ev.succ ?_
    simp only [laws_toInt64S.l0]
    refine Ev.neg (by omega) (Ev.eqn (Ev.now _) ?_)
    refine ext_getD 0 (by simp [ha]) (fun j h => ?_)
    rw [hj j (by omega)]
  | succ d ih =>
    intro i acc hi ha hj
    have hl := hs.1
    have hlt : i < l.length := by omega
    refine Ev.succ ?_
    simp only [laws_toInt64S.l0]
    refine Ev.pos (by omega) (Ev.pos (by omega) (Ev.pos (by omega) ?_))
    rw [wnat i (by omega)]
    refine ih (i + 1) _ (by omega) (by simp [ha]) (fun j hj2 => ?_)
    refine (getD_set acc i j _ 0 (by omega)).trans ?_
    by_cases e : j = i
    · subst e; rw [if_pos rfl]; rfl
    · rw [if_neg e]; exact hj j (by omega)
theorem laws_toInt64S_ev (l : List Int) (hs : (smL smT) l) : Ev (fun k => laws_toInt64S.f k l) l := by
  have hl := hs.1
  simp only [laws_toInt64S.f]
  refine Ev.pos (by omega) (Ev.pos (by omega) ?_)
  exact laws_toInt64S_l0 l hs l.length 0 _ (by omega) (by simp) (fun j h => absurd h (by omega))
def cv153 (x : S153) : S96 := ⟨x.f0, x.f1, x.f2, x.f3, x.f4, x.f5⟩
def sm96 (x : S96) : Prop := smS x.f0 ∧ smT x.f1 ∧ smT x.f2 ∧ smT x.f3 ∧ smT x.f4 ∧ (smL smT) x.f5
theorem cv153_sm (x : S153) (h : sm153 x) : sm96 (cv153 x) := ⟨h.1, h.2.1, h.2.2.1, h.2.2.2.1, h.2.2.2.2.1, h.2.2.2.2.2⟩
theorem laws_toBuilding_ev (x : S153) (hx : sm153 x) : Ev (fun k => laws_toBuilding.f k (x.f0) (x.f1) (x.f2) (x.f3) (x.f4) (x.f5)) ((cv153 x).f0, (cv153 x).f1, (cv153 x).f2, (cv153 x).f3, (cv153 x).f4, (cv153 x).f5) := by
  simp only [laws_toBuilding.f]
  exact Ev.bind (laws_toInt64S_ev x.f5 (hx.2.2.2.2.2)) (Ev.now _)
theorem laws_toBuildingS_l0 (l : List (S153)) (hs : (smL sm153) l) : ∀ (d i : Nat) (acc : List (S96)), i + d = l.length → acc.length = l.length → (∀ j, j < i → acc.getD j z96 = (cv153 (l.getD j z153))) →
    Ev (fun k => laws_toBuildingS.l0 k l acc (i : Int)) (l.map cv153) := by
  intro d
  induction d with
  | zero =>
    intro i acc hi ha hj
    refine Ev.succ ?_
    simp only [laws_toBuildingS.l0]
    refine Ev.neg (by omega) (Ev.eqn (Ev.now _) ?_)
    refine ext_getD z96 (by simp [ha]) (fun j h => ?_)
    rw [hj j (by omega), getD_map cv153 l j z153 z96 (by omega)]
  | succ d ih =>
    intro i acc hi ha hj
    have hl := hs.1
    have hlt : i < l.length := by omega
    refine Ev.succ ?_
    simp only [laws_toBuildingS.l0]
    refine Ev.pos (by omega) (Ev.pos (by omega) (Ev.bind (laws_toBuilding_ev (rd_T153 l (i : Int)) (smL_get hs _ hlt)) (Ev.pos (by omega) ?_)))
    rw [wnat i (by omega)]
    refine ih (i + 1) _ (by omega) (by simp [ha]) (fun j hj2 => ?_)
    refine (getD_set acc i j _ z96 (by omega)).trans ?_
    by_cases e : j = i
    · subst e; rw [if_pos rfl]; rfl
    · rw [if_neg e]; exact hj j (by omega)
theorem laws_toBuildingS_ev (l : List (S153)) (hs : (smL sm153) l) : Ev (fun k => laws_toBuildingS.f k l) (l.map cv153) := by
  have hl := hs.1
  simp only [laws_toBuildingS.f]
  refine Ev.pos (by omega) (Ev.pos (by omega) ?_)
  exact laws_toBuildingS_l0 l hs l.length 0 _ (by omega) (by simp) (fun j h => absurd h (by omega))
theorem laws_eqInt64S_l0 (l : List Int) (hl : l.length ≤ 9223372036854775807) : ∀ (d i : Nat), i + d = l.length → Ev (fun k => laws_eqInt64S.l0 k l l (i : Int)) true := by
  intro d
  induction d with
  | zero =>
    intro i hi
    refine Ev.succ ?_
    simp only [laws_eqInt64S.l0]
    exact Ev.neg (by omega) (Ev.now _)
  | succ d ih =>
    intro i hi
    refine Ev.succ ?_
    simp only [laws_eqInt64S.l0]
    refine Ev.pos (by omega) (Ev.pos (by omega) (Ev.pos (by omega) ?_))
    refine Ev.pos (by first | rfl | trivial) ?_
    rw [wnat i (by omega)]
    exact ih (i + 1) (by omega)
theorem laws_eqInt64S_refl (l : List Int) (hl : l.length ≤ 9223372036854775807) : Ev (fun k => laws_eqInt64S.f k l l) true := by
  simp only [laws_eqInt64S.f]
  exact Ev.pos (by first | rfl | trivial) (laws_eqInt64S_l0 l hl l.length 0 (by omega))
theorem laws_eqBuilding_refl (x : S96) (hx : sm96 x) : Ev (fun k => laws_eqBuilding.f k (x.f0) (x.f1) (x.f2) (x.f3) (x.f4) (x.f5) (x.f0) (x.f1) (x.f2) (x.f3) (x.f4) (x.f5)) true := by
  simp only [laws_eqBuilding.f]
  refine Ev.pos (by first | rfl | trivial) ?_
  refine Ev.pos (by first | rfl | trivial) ?_
  refine Ev.pos (by first | rfl | trivial) ?_
  refine Ev.pos (by first | rfl | trivial) ?_
  refine Ev.pos (by first | rfl | trivial) ?_
  refine Ev.bind (laws_eqInt64S_refl x.f5 (Nat.le_trans hx.2.2.2.2.2.1 (by omega))) (Ev.pos (by first | rfl | trivial) ?_)
  exact Ev.now _
theorem laws_eqBuildingS_l0 (l : List (S96)) (hs : (smL sm96) l) : ∀ (d i : Nat), i + d = l.length → Ev (fun k => laws_eqBuildingS.l0 k l l (i : Int)) true := by
  have hl : l.length ≤ 9223372036854775807 := Nat.le_trans hs.1 (by omega)
  intro d
  induction d with
  | zero =>
    intro i hi
    refine Ev.succ ?_
    simp only [laws_eqBuildingS.l0]
    exact Ev.neg (by omega) (Ev.now _)
  | succ d ih =>
    intro i hi
    refine Ev.succ ?_
    simp only [laws_eqBuildingS.l0]
    refine Ev.pos (by omega) (Ev.pos (by omega) (Ev.pos (by omega) ?_))
    refine Ev.bind (laws_eqBuilding_refl (rd_T96 l (i : Int)) (smL_get hs _ (by omega))) (Ev.pos (by first | rfl | trivial) ?_)
    rw [wnat i (by omega)]
    exact ih (i + 1) (by omega)
theorem laws_eqBuildingS_refl (l : List (S96)) (hs : (smL sm96) l) : Ev (fun k => laws_eqBuildingS.f k l l) true := by
  simp only [laws_eqBuildingS.f]
  exact Ev.pos (by first | rfl | trivial) (laws_eqBuildingS_l0 l hs l.length 0 (by omega))
end Go.Proofs.Ytamiipnoeffjkaa.QOutdoorFor
