/- The plain laws of the laws' own helpers: sizes, copies, comparisons, marks. Conditions: those that each states. -/
import Derived.Test.YtidfchlgdmnopaaDoorQVersionTextx1
import Derived.Test.YtidfchlgdmnopaaDoorQVersionTextx3
import Derived.Test.YtidfchlgdmnopaaDoorQVersionTextx4
import Derived.Test.YtidfchlgdmnopaaDoorQVersionTextx6
import Derived.Test.YtidfchlgdmnopaaDoorQVersionTextx7
import Derived.Test.YtidfchlgdmnopaaDoorQVersionTextxO
import Derived.Test.YtidfchlgdmnopaaDoorQEv
namespace Go.Proofs.YtidfchlgdmnopaaDoor.QVersionText
open Go.RowKit Go.Proofs.YtidfchlgdmnopaaDoorW.PrintWords Go.Proofs.YtidfchlgdmnopaaDoor.QOpen Go.Proofs.YtidfchlgdmnopaaDoor.QEv
set_option linter.unusedVariables false
set_option linter.unusedSimpArgs false
def sm133 (x : S133) : Prop := smS x.f0 ∧ smT x.f1
theorem laws_szSetting_ev (x : S133) (left : Int) (hx : wf133 x) (h0 : 0 ≤ left) (h1 : left ≤ 1048576) : ∃ t, Ev (fun k => laws_szSetting.f (x.f0) (x.f1) left) t ∧ -1 ≤ t ∧ t ≤ left ∧ (0 ≤ t → sm133 x) := by
  obtain ⟨hx0, hx1⟩ := hx
  simp only [laws_szSetting.f]
  have hs0 : x.f0.size ≤ 9223372036854775807 := hx0
  have w0 : wrap64 (left - (x.f0.size : Int)) = left - (x.f0.size : Int) := wid (by omega) (by omega)
  simp only [w0]
  by_cases c0 : left - (x.f0.size : Int) < 0
  · exact ⟨-1, Ev.pos c0 (Ev.now _), by omega, by omega, fun h => absurd h (by omega)⟩
  exact ⟨(left - (x.f0.size : Int)), Ev.neg c0 (Ev.now _), by omega, by omega, fun h => ⟨(show x.f0.size ≤ 1048576 by omega), trivial⟩⟩
theorem laws_szSettingS_l0 (l : List (S133)) (hw : (wfL wf133) l) : ∀ (d i : Nat) (left : Int), i + d = l.length → 0 ≤ left → left ≤ 1048576 →
    ∃ t, Ev (fun k => laws_szSettingS.l0 k l left (i : Int)) t ∧ -1 ≤ t ∧ t ≤ left ∧ (0 ≤ t → ∀ j, i ≤ j → j < l.length → sm133 (l.getD j z133)) := by
  intro d
  induction d with
  | zero =>
    intro i left hi h0 h1
    refine ⟨left, ?_, by omega, by omega, fun _ j hj hj2 => by omega⟩
    refine Ev.succ ?_
    simp only [laws_szSettingS.l0]
    exact Ev.neg (by omega) (Ev.now _)
  | succ d ih =>
    intro i left hi h0 h1
    have hlt : i < l.length := by omega
    have hl := hw.1
    obtain ⟨t, ht, ht0, ht1, ht2⟩ := laws_szSetting_ev (rd_T133 l (i : Int)) left (wfL_get hw _ hlt) h0 h1
    by_cases hn : t < 0
    · refine ⟨-1, ?_, by omega, by omega, fun h => absurd h (by omega)⟩
      refine Ev.succ ?_
      simp only [laws_szSettingS.l0]
      refine Ev.pos (by omega) (Ev.pos (by omega) (Ev.bind ht ?_))
      exact Ev.pos hn (Ev.now _)
    · obtain ⟨u, hu, hu0, hu1, hu2⟩ := ih (i + 1) t (by omega) (by omega) (by omega)
      refine ⟨u, ?_, hu0, by omega, fun h j hj hj2 => ?_⟩
      · refine Ev.succ ?_
        simp only [laws_szSettingS.l0]
        refine Ev.pos (by omega) (Ev.pos (by omega) (Ev.bind ht ?_))
        refine Ev.neg hn ?_
        rw [wnat i (by omega)]
        exact hu
      · by_cases e : j = i
        · subst e; exact ht2 (by omega)
        · exact hu2 h j (by omega) hj2
theorem laws_szSettingS_ev (l : List (S133)) (left : Int) (hw : (wfL wf133) l) (h0 : 0 ≤ left) (h1 : left ≤ 1048576) : ∃ t, Ev (fun k => laws_szSettingS.f k l left) t ∧ -1 ≤ t ∧ t ≤ left ∧ (0 ≤ t → (smL sm133) l) := by
  have hl := hw.1
  have w0 : wrap64 (left - (l.length : Int)) = left - (l.length : Int) := wid (by omega) (by omega)
  simp only [laws_szSettingS.f, w0]
  by_cases c : left - (l.length : Int) < 0
  · exact ⟨-1, Ev.pos c (Ev.now _), by omega, by omega, fun h => absurd h (by omega)⟩
  · obtain ⟨u, hu, hu0, hu1, hu2⟩ := laws_szSettingS_l0 l hw l.length 0 (left - (l.length : Int)) (by omega) (by omega) (by omega)
    exact ⟨u, Ev.neg c hu, hu0, by omega, fun h => smL_of z133 (by omega) (fun j hj => hu2 h j (by omega) hj)⟩
def sm31 (x : S31) : Prop := smT x.f0 ∧ smT x.f1 ∧ smS x.f2 ∧ (smL sm133) x.f3
theorem laws_szVersion_ev (x : S31) (left : Int) (hx : wf31 x) (h0 : 0 ≤ left) (h1 : left ≤ 1048576) : ∃ t, Ev (fun k => laws_szVersion.f k (x.f0) (x.f1) (x.f2) (x.f3) left) t ∧ -1 ≤ t ∧ t ≤ left ∧ (0 ≤ t → sm31 x) := by
  obtain ⟨hx0, hx1, hx2, hx3⟩ := hx
  simp only [laws_szVersion.f]
  have hs2 : x.f2.size ≤ 9223372036854775807 := hx2
  have w2 : wrap64 (left - (x.f2.size : Int)) = left - (x.f2.size : Int) := wid (by omega) (by omega)
  simp only [w2]
  by_cases c2 : left - (x.f2.size : Int) < 0
  · exact ⟨-1, Ev.pos c2 (Ev.now _), by omega, by omega, fun h => absurd h (by omega)⟩
  obtain ⟨t3, e3, a3, b3, s3⟩ := laws_szSettingS_ev x.f3 (left - (x.f2.size : Int)) hx3 (by omega) (by omega)
  by_cases c3 : t3 < 0
  · exact ⟨-1, Ev.neg c2 (Ev.bind e3 (Ev.pos c3 (Ev.now _))), by omega, by omega, fun h => absurd h (by omega)⟩
  exact ⟨t3, Ev.neg c2 (Ev.bind e3 (Ev.neg c3 (Ev.now _))), by omega, by omega, fun h => ⟨trivial, trivial, (show x.f2.size ≤ 1048576 by omega), s3 (by omega)⟩⟩
def cv133 (x : S133) : S100 := ⟨x.f0, x.f1⟩
def sm100 (x : S100) : Prop := smS x.f0 ∧ smT x.f1
theorem cv133_sm (x : S133) (h : sm133 x) : sm100 (cv133 x) := ⟨h.1, h.2⟩
theorem laws_toSetting_ev (x : S133) (hx : sm133 x) : Ev (fun k => laws_toSetting.f (x.f0) (x.f1)) ((cv133 x).f0, (cv133 x).f1) := by
  simp only [laws_toSetting.f]
  exact Ev.now _
theorem laws_toSettingS_l0 (l : List (S133)) (hs : (smL sm133) l) : ∀ (d i : Nat) (acc : List (S100)), i + d = l.length → acc.length = l.length → (∀ j, j < i → acc.getD j z100 = (cv133 (l.getD j z133))) →
    Ev (fun k => laws_toSettingS.l0 k l acc (i : Int)) (l.map cv133) := by
  intro d
  induction d with
  | zero =>
    intro i acc hi ha hj
    refine Ev.succ ?_
    simp only [laws_toSettingS.l0]
    refine Ev.neg (by omega) (Ev.eqn (Ev.now _) ?_)
    refine ext_getD z100 (by simp [ha]) (fun j h => ?_)
    rw [hj j (by omega), getD_map cv133 l j z133 z100 (by omega)]
  | succ d ih =>
    intro i acc hi ha hj
    have hl := hs.1
    have hlt : i < l.length := by omega
    refine Ev.succ ?_
    simp only [laws_toSettingS.l0]
    refine Ev.pos (by omega) (Ev.pos (by omega) (Ev.bind (laws_toSetting_ev (rd_T133 l (i : Int)) (smL_get hs _ hlt)) (Ev.pos (by omega) ?_)))
    rw [wnat i (by omega)]
    refine ih (i + 1) _ (by omega) (by simp [ha]) (fun j hj2 => ?_)
    refine (getD_set acc i j _ z100 (by omega)).trans ?_
    by_cases e : j = i
    · subst e; rw [if_pos rfl]; rfl
    · rw [if_neg e]; exact hj j (by omega)
theorem laws_toSettingS_ev (l : List (S133)) (hs : (smL sm133) l) : Ev (fun k => laws_toSettingS.f k l) (l.map cv133) := by
  have hl := hs.1
  simp only [laws_toSettingS.f]
  refine Ev.pos (by omega) (Ev.pos (by omega) ?_)
  exact laws_toSettingS_l0 l hs l.length 0 _ (by omega) (by simp) (fun j h => absurd h (by omega))
def cv31 (x : S31) : S36 := ⟨x.f0, x.f1, x.f2, (x.f3.map cv133)⟩
def sm36 (x : S36) : Prop := smT x.f0 ∧ smT x.f1 ∧ smS x.f2 ∧ (smL sm100) x.f3
theorem cv31_sm (x : S31) (h : sm31 x) : sm36 (cv31 x) := ⟨h.1, h.2.1, h.2.2.1, smL_map _ (fun x h => cv133_sm x h) h.2.2.2⟩
theorem laws_toVersion_ev (x : S31) (hx : sm31 x) : Ev (fun k => laws_toVersion.f k (x.f0) (x.f1) (x.f2) (x.f3)) ((cv31 x).f0, (cv31 x).f1, (cv31 x).f2, (cv31 x).f3) := by
  simp only [laws_toVersion.f]
  exact Ev.bind (laws_toSettingS_ev x.f3 (hx.2.2.2)) (Ev.now _)
theorem laws_eqSetting_refl (x : S100) : Ev (fun k => laws_eqSetting.f (x.f0) (x.f1) (x.f0) (x.f1)) true := by
  simp only [laws_eqSetting.f]
  refine Ev.pos (by first | rfl | trivial) ?_
  refine Ev.pos (by first | rfl | trivial) ?_
  exact Ev.now _
theorem laws_eqSettingS_l0 (l : List (S100)) (hl : l.length ≤ 9223372036854775807) : ∀ (d i : Nat), i + d = l.length → Ev (fun k => laws_eqSettingS.l0 k l l (i : Int)) true := by
  intro d
  induction d with
  | zero =>
    intro i hi
    refine Ev.succ ?_
    simp only [laws_eqSettingS.l0]
    exact Ev.neg (by omega) (Ev.now _)
  | succ d ih =>
    intro i hi
    refine Ev.succ ?_
    simp only [laws_eqSettingS.l0]
    refine Ev.pos (by omega) (Ev.pos (by omega) (Ev.pos (by omega) ?_))
    refine Ev.bind (laws_eqSetting_refl (rd_T100 l (i : Int))) (Ev.pos (by first | rfl | trivial) ?_)
    rw [wnat i (by omega)]
    exact ih (i + 1) (by omega)
theorem laws_eqSettingS_refl (l : List (S100)) (hl : l.length ≤ 9223372036854775807) : Ev (fun k => laws_eqSettingS.f k l l) true := by
  simp only [laws_eqSettingS.f]
  exact Ev.pos (by first | rfl | trivial) (laws_eqSettingS_l0 l hl l.length 0 (by omega))
theorem laws_eqVersion_refl (x : S36) (hx : sm36 x) : Ev (fun k => laws_eqVersion.f k (x.f0) (x.f1) (x.f2) (x.f3) (x.f0) (x.f1) (x.f2) (x.f3)) true := by
  simp only [laws_eqVersion.f]
  refine Ev.pos (by first | rfl | trivial) ?_
  refine Ev.pos (by first | rfl | trivial) ?_
  refine Ev.pos (by first | rfl | trivial) ?_
  refine Ev.bind (laws_eqSettingS_refl x.f3 (Nat.le_trans hx.2.2.2.1 (by omega))) (Ev.pos (by first | rfl | trivial) ?_)
  exact Ev.now _
end Go.Proofs.YtidfchlgdmnopaaDoor.QVersionText
