/- The plain laws of the laws' own helpers: sizes, copies, comparisons, marks. Conditions: those that each states. -/
import Derived.Test.YtnmdljdkbpgdaaaQCommitStatex1
import Derived.Test.YtnmdljdkbpgdaaaQCommitStatex2
import Derived.Test.YtnmdljdkbpgdaaaQCommitStatex3
import Derived.Test.YtnmdljdkbpgdaaaQCommitStatex9
import Derived.Test.YtnmdljdkbpgdaaaQCommitStatexO
import Derived.Test.YtnmdljdkbpgdaaaQEv
namespace Go.Proofs.Ytnmdljdkbpgdaaa.QCommitState
open Go.RowKit Go.Proofs.YtnmdljdkbpgdaaaW.PrintWords Go.Proofs.Ytnmdljdkbpgdaaa.QOpen Go.Proofs.Ytnmdljdkbpgdaaa.QEv
set_option linter.unusedVariables false
set_option linter.unusedSimpArgs false
def sm155 (x : S155) : Prop := smS x.f0 ∧ smT x.f1
theorem laws_szSetting_ev (x : S155) (left : Int) (hx : wf155 x) (h0 : 0 ≤ left) (h1 : left ≤ 1048576) : ∃ t, Ev (fun k => laws_szSetting.f (x.f0) (x.f1) left) t ∧ -1 ≤ t ∧ t ≤ left ∧ (0 ≤ t → sm155 x) := by
  obtain ⟨hx0, hx1⟩ := hx
  simp only [laws_szSetting.f]
  have hs0 : x.f0.size ≤ 9223372036854775807 := hx0
  have w0 : wrap64 (left - (x.f0.size : Int)) = left - (x.f0.size : Int) := wid (by omega) (by omega)
  simp only [w0]
  by_cases c0 : left - (x.f0.size : Int) < 0
  · exact ⟨-1, Ev.pos c0 (Ev.now _), by omega, by omega, fun h => absurd h (by omega)⟩
  exact ⟨(left - (x.f0.size : Int)), Ev.neg c0 (Ev.now _), by omega, by omega, fun h => ⟨(show x.f0.size ≤ 1048576 by omega), trivial⟩⟩
theorem laws_szSettingS_l0 (l : List (S155)) (hw : (wfL wf155) l) : ∀ (d i : Nat) (left : Int), i + d = l.length → 0 ≤ left → left ≤ 1048576 →
    ∃ t, Ev (fun k => laws_szSettingS.l0 k l left (i : Int)) t ∧ -1 ≤ t ∧ t ≤ left ∧ (0 ≤ t → ∀ j, i ≤ j → j < l.length → sm155 (l.getD j z155)) := by
  intro d
  induction d with
  | zero =>
    intro i left hi h0 h1
    refine ⟨left, ?_, by omega, by omega, fun _ j hj hj2 => by omega⟩
    refine Ev.succ ?_
    simp only [laws_szSettingS.l0]
    exact Ev.neg (by omega) (Ev.now _)
  | succ d ih =>
    intro i left hi h0 h1
    have hlt : i < l.length := by omega
    have hl := hw.1
    obtain ⟨t, ht, ht0, ht1, ht2⟩ := laws_szSetting_ev (rd_T155 l (i : Int)) left (wfL_get hw _ hlt) h0 h1
    by_cases hn : t < 0
    · refine ⟨-1, ?_, by omega, by omega, fun h => absurd h (by omega)⟩
      refine Ev.succ ?_
      simp only [laws_szSettingS.l0]
      refine Ev.pos (by omega) (Ev.pos (by omega) (Ev.bind ht ?_))
      exact Ev.pos hn (Ev.now _)
    · obtain ⟨u, hu, hu0, hu1, hu2⟩ := ih (i + 1) t (by omega) (by omega) (by omega)
      refine ⟨u, ?_, hu0, by omega, fun h j hj hj2 => ?_⟩
      · refine Ev.succ ?_
        simp only [laws_szSettingS.l0]
        refine Ev.pos (by omega) (Ev.pos (by omega) (Ev.bind ht ?_))
        refine Ev.neg hn ?_
        rw [wnat i (by omega)]
        exact hu
      · by_cases e : j = i
        · subst e; exact ht2 (by omega)
        · exact hu2 h j (by omega) hj2
theorem laws_szSettingS_ev (l : List (S155)) (left : Int) (hw : (wfL wf155) l) (h0 : 0 ≤ left) (h1 : left ≤ 1048576) : ∃ t, Ev (fun k => laws_szSettingS.f k l left) t ∧ -1 ≤ t ∧ t ≤ left ∧ (0 ≤ t → (smL sm155) l) := by
  have hl := hw.1
  have w0 : wrap64 (left - (l.length : Int)) = left - (l.length : Int) := wid (by omega) (by omega)
  simp only [laws_szSettingS.f, w0]
  by_cases c : left - (l.length : Int) < 0
  · exact ⟨-1, Ev.pos c (Ev.now _), by omega, by omega, fun h => absurd h (by omega)⟩
  · obtain ⟨u, hu, hu0, hu1, hu2⟩ := laws_szSettingS_l0 l hw l.length 0 (left - (l.length : Int)) (by omega) (by omega) (by omega)
    exact ⟨u, Ev.neg c hu, hu0, by omega, fun h => smL_of z155 (by omega) (fun j hj => hu2 h j (by omega) hj)⟩
def sm114 (x : S114) : Prop := smT x.f0 ∧ smT x.f1 ∧ smS x.f2 ∧ (smL sm155) x.f3
theorem laws_szVersion_ev (x : S114) (left : Int) (hx : wf114 x) (h0 : 0 ≤ left) (h1 : left ≤ 1048576) : ∃ t, Ev (fun k => laws_szVersion.f k (x.f0) (x.f1) (x.f2) (x.f3) left) t ∧ -1 ≤ t ∧ t ≤ left ∧ (0 ≤ t → sm114 x) := by
  obtain ⟨hx0, hx1, hx2, hx3⟩ := hx
  simp only [laws_szVersion.f]
  have hs2 : x.f2.size ≤ 9223372036854775807 := hx2
  have w2 : wrap64 (left - (x.f2.size : Int)) = left - (x.f2.size : Int) := wid (by omega) (by omega)
  simp only [w2]
  by_cases c2 : left - (x.f2.size : Int) < 0
  · exact ⟨-1, Ev.pos c2 (Ev.now _), by omega, by omega, fun h => absurd h (by omega)⟩
  obtain ⟨t3, e3, a3, b3, s3⟩ := laws_szSettingS_ev x.f3 (left - (x.f2.size : Int)) hx3 (by omega) (by omega)
  by_cases c3 : t3 < 0
  · exact ⟨-1, Ev.neg c2 (Ev.bind e3 (Ev.pos c3 (Ev.now _))), by omega, by omega, fun h => absurd h (by omega)⟩
  exact ⟨t3, Ev.neg c2 (Ev.bind e3 (Ev.neg c3 (Ev.now _))), by omega, by omega, fun h => ⟨trivial, trivial, (show x.f2.size ≤ 1048576 by omega), s3 (by omega)⟩⟩
theorem laws_szVersionS_l0 (l : List (S114)) (hw : (wfL wf114) l) : ∀ (d i : Nat) (left : Int), i + d = l.length → 0 ≤ left → left ≤ 1048576 →
    ∃ t, Ev (fun k => laws_szVersionS.l0 k l left (i : Int)) t ∧ -1 ≤ t ∧ t ≤ left ∧ (0 ≤ t → ∀ j, i ≤ j → j < l.length → sm114 (l.getD j z114)) := by
  intro d
  induction d with
  | zero =>
    intro i left hi h0 h1
    refine ⟨left, ?_, by omega, by omega, fun _ j hj hj2 => by omega⟩
    refine Ev.succ ?_
    simp only [laws_szVersionS.l0]
    exact Ev.neg (by omega) (Ev.now _)
  | succ d ih =>
    intro i left hi h0 h1
    have hlt : i < l.length := by omega
    have hl := hw.1
    obtain ⟨t, ht, ht0, ht1, ht2⟩ := laws_szVersion_ev (rd_T114 l (i : Int)) left (wfL_get hw _ hlt) h0 h1
    by_cases hn : t < 0
    · refine ⟨-1, ?_, by omega, by omega, fun h => absurd h (by omega)⟩
      refine Ev.succ ?_
      simp only [laws_szVersionS.l0]
      refine Ev.pos (by omega) (Ev.pos (by omega) (Ev.bind ht ?_))
      exact Ev.pos hn (Ev.now _)
    · obtain ⟨u, hu, hu0, hu1, hu2⟩ := ih (i + 1) t (by omega) (by omega) (by omega)
      refine ⟨u, ?_, hu0, by omega, fun h j hj hj2 => ?_⟩
      · refine Ev.succ ?_
        simp only [laws_szVersionS.l0]
        refine Ev.pos (by omega) (Ev.pos (by omega) (Ev.bind ht ?_))
        refine Ev.neg hn ?_
        rw [wnat i (by omega)]
        exact hu
      · by_cases e : j = i
        · subst e; exact ht2 (by omega)
        · exact hu2 h j (by omega) hj2
theorem laws_szVersionS_ev (l : List (S114)) (left : Int) (hw : (wfL wf114) l) (h0 : 0 ≤ left) (h1 : left ≤ 1048576) : ∃ t, Ev (fun k => laws_szVersionS.f k l left) t ∧ -1 ≤ t ∧ t ≤ left ∧ (0 ≤ t → (smL sm114) l) := by
  have hl := hw.1
  have w0 : wrap64 (left - (l.length : Int)) = left - (l.length : Int) := wid (by omega) (by omega)
  simp only [laws_szVersionS.f, w0]
  by_cases c : left - (l.length : Int) < 0
  · exact ⟨-1, Ev.pos c (Ev.now _), by omega, by omega, fun h => absurd h (by omega)⟩
  · obtain ⟨u, hu, hu0, hu1, hu2⟩ := laws_szVersionS_l0 l hw l.length 0 (left - (l.length : Int)) (by omega) (by omega) (by omega)
    exact ⟨u, Ev.neg c hu, hu0, by omega, fun h => smL_of z114 (by omega) (fun j hj => hu2 h j (by omega) hj)⟩
def cv155 (x : S155) : S157 := ⟨x.f0, x.f1⟩
def sm157 (x : S157) : Prop := smS x.f0 ∧ smT x.f1
theorem cv155_sm (x : S155) (h : sm155 x) : sm157 (cv155 x) := ⟨h.1, h.2⟩
theorem laws_toSetting_ev (x : S155) (hx : sm155 x) : Ev (fun k => laws_toSetting.f (x.f0) (x.f1)) ((cv155 x).f0, (cv155 x).f1) := by
  simp only [laws_toSetting.f]
  exact Ev.now _
theorem laws_toSettingS_l0 (l : List (S155)) (hs : (smL sm155) l) : ∀ (d i : Nat) (acc : List (S157)), i + d = l.length → acc.length = l.length → (∀ j, j < i → acc.getD j z157 = (cv155 (l.getD j z155))) →
    Ev (fun k => laws_toSettingS.l0 k l acc (i : Int)) (l.map cv155) := by
  intro d
  induction d with
  | zero =>
    intro i acc hi ha hj
    refine Ev.succ ?_
    simp only [laws_toSettingS.l0]
    refine Ev.neg (by omega) (Ev.eqn (Ev.now _) ?_)
    refine ext_getD z157 (by simp [ha]) (fun j h => ?_)
    rw [hj j (by omega), getD_map cv155 l j z155 z157 (by omega)]
  | succ d ih =>
    intro i acc hi ha hj
    have hl := hs.1
    have hlt : i < l.length := by omega
    refine Ev.succ ?_
    simp only [laws_toSettingS.l0]
    refine Ev.pos (by omega) (Ev.pos (by omega) (Ev.bind (laws_toSetting_ev (rd_T155 l (i : Int)) (smL_get hs _ hlt)) (Ev.pos (by omega) ?_)))
    rw [wnat i (by omega)]
    refine ih (i + 1) _ (by omega) (by simp [ha]) (fun j hj2 => ?_)
    refine (getD_set acc i j _ z157 (by omega)).trans ?_
    by_cases e : j = i
    · subst e; rw [if_pos rfl]; rfl
    · rw [if_neg e]; exact hj j (by omega)
theorem laws_toSettingS_ev (l : List (S155)) (hs : (smL sm155) l) : Ev (fun k => laws_toSettingS.f k l) (l.map cv155) := by
  have hl := hs.1
  simp only [laws_toSettingS.f]
  refine Ev.pos (by omega) (Ev.pos (by omega) ?_)
  exact laws_toSettingS_l0 l hs l.length 0 _ (by omega) (by simp) (fun j h => absurd h (by omega))
def cv114 (x : S114) : S119 := ⟨x.f0, x.f1, x.f2, (x.f3.map cv155)⟩
def sm119 (x : S119) : Prop := smT x.f0 ∧ smT x.f1 ∧ smS x.f2 ∧ (smL sm157) x.f3
theorem cv114_sm (x : S114) (h : sm114 x) : sm119 (cv114 x) := ⟨h.1, h.2.1, h.2.2.1, smL_map _ (fun x h => cv155_sm x h) h.2.2.2⟩
theorem laws_toVersion_ev (x : S114) (hx : sm114 x) : Ev (fun k => laws_toVersion.f k (x.f0) (x.f1) (x.f2) (x.f3)) ((cv114 x).f0, (cv114 x).f1, (cv114 x).f2, (cv114 x).f3) := by
  simp only [laws_toVersion.f]
  exact Ev.bind (laws_toSettingS_ev x.f3 (hx.2.2.2)) (Ev.now _)
theorem laws_toVersionS_l0 (l : List (S114)) (hs : (smL sm114) l) : ∀ (d i : Nat) (acc : List (S119)), i + d = l.length → acc.length = l.length → (∀ j, j < i → acc.getD j z119 = (cv114 (l.getD j z114))) →
    Ev (fun k => laws_toVersionS.l0 k l acc (i : Int)) (l.map cv114) := by
  intro d
  induction d with
  | zero =>
    intro i acc hi ha hj
    refine Ev.succ ?_
    simp only [laws_toVersionS.l0]
    refine Ev.neg (by omega) (Ev.eqn (Ev.now _) ?_)
    refine ext_getD z119 (by simp [ha]) (fun j h => ?_)
    rw [hj j (by omega), getD_map cv114 l j z114 z119 (by omega)]
  | succ d ih =>
    intro i acc hi ha hj
    have hl := hs.1
    have hlt : i < l.length := by omega
    refine Ev.succ ?_
    simp only [laws_toVersionS.l0]
    refine Ev.pos (by omega) (Ev.pos (by omega) (Ev.bind (laws_toVersion_ev (rd_T114 l (i : Int)) (smL_get hs _ hlt)) (Ev.pos (by omega) ?_)))
    rw [wnat i (by omega)]
    refine ih (i + 1) _ (by omega) (by simp [ha]) (fun j hj2 => ?_)
    refine (getD_set acc i j _ z119 (by omega)).trans ?_
    by_cases e : j = i
    · subst e; rw [if_pos rfl]; rfl
    · rw [if_neg e]; exact hj j (by omega)
theorem laws_toVersionS_ev (l : List (S114)) (hs : (smL sm114) l) : Ev (fun k => laws_toVersionS.f k l) (l.map cv114) := by
  have hl := hs.1
  simp only [laws_toVersionS.f]
  refine Ev.pos (by omega) (Ev.pos (by omega) ?_)
  exact laws_toVersionS_l0 l hs l.length 0 _ (by omega) (by simp) (fun j h => absurd h (by omega))
theorem laws_eqSetting_refl (x : S157) : Ev (fun k => laws_eqSetting.f (x.f0) (x.f1) (x.f0) (x.f1)) true := by
  simp only [laws_eqSetting.f]
  refine Ev.pos (by first | rfl | trivial) ?_
  refine Ev.pos (by first | rfl | trivial) ?_
  exact Ev.now _
theorem laws_eqSettingS_l0 (l : List (S157)) (hl : l.length ≤ 9223372036854775807) : ∀ (d i : Nat), i + d = l.length → Ev (fun k => laws_eqSettingS.l0 k l l (i : Int)) true := by
  intro d
  induction d with
  | zero =>
    intro i hi
    refine Ev.succ ?_
    simp only [laws_eqSettingS.l0]
    exact Ev.neg (by omega) (Ev.now _)
  | succ d ih =>
    intro i hi
    refine Ev.succ ?_
    simp only [laws_eqSettingS.l0]
    refine Ev.pos (by omega) (Ev.pos (by omega) (Ev.pos (by omega) ?_))
    refine Ev.bind (laws_eqSetting_refl (rd_T157 l (i : Int))) (Ev.pos (by first | rfl | trivial) ?_)
    rw [wnat i (by omega)]
    exact ih (i + 1) (by omega)
theorem laws_eqSettingS_refl (l : List (S157)) (hl : l.length ≤ 9223372036854775807) : Ev (fun k => laws_eqSettingS.f k l l) true := by
  simp only [laws_eqSettingS.f]
  exact Ev.pos (by first | rfl | trivial) (laws_eqSettingS_l0 l hl l.length 0 (by omega))
theorem laws_eqVersion_refl (x : S119) (hx : sm119 x) : Ev (fun k => laws_eqVersion.f k (x.f0) (x.f1) (x.f2) (x.f3) (x.f0) (x.f1) (x.f2) (x.f3)) true := by
  simp only [laws_eqVersion.f]
  refine Ev.pos (by first | rfl | trivial) ?_
  refine Ev.pos (by first | rfl | trivial) ?_
  refine Ev.pos (by first | rfl | trivial) ?_
  refine Ev.bind (laws_eqSettingS_refl x.f3 (Nat.le_trans hx.2.2.2.1 (by omega))) (Ev.pos (by first | rfl | trivial) ?_)
  exact Ev.now _
theorem laws_eqVersionS_l0 (l : List (S119)) (hs : (smL sm119) l) : ∀ (d i : Nat), i + d = l.length → Ev (fun k => laws_eqVersionS.l0 k l l (i : Int)) true := by
  have hl : l.length ≤ 9223372036854775807 := Nat.le_trans hs.1 (by omega)
  intro d
  induction d with
  | zero =>
    intro i hi
    refine Ev.succ ?_
    simp only [laws_eqVersionS.l0]
    exact Ev.neg (by omega) (Ev.now _)
  | succ d ih =>
    intro i hi
    refine Ev.succ ?_
    simp only [laws_eqVersionS.l0]
    refine Ev.pos (by omega) (Ev.pos (by omega) (Ev.pos (by omega) ?_))
    refine Ev.bind (laws_eqVersion_refl (rd_T119 l (i : Int)) (smL_get hs _ (by omega))) (Ev.pos (by first | rfl | trivial) ?_)
    rw [wnat i (by omega)]
    exact ih (i + 1) (by omega)
theorem laws_eqVersionS_refl (l : List (S119)) (hs : (smL sm119) l) : Ev (fun k => laws_eqVersionS.f k l l) true := by
  simp only [laws_eqVersionS.f]
  exact Ev.pos (by first | rfl | trivial) (laws_eqVersionS_l0 l hs l.length 0 (by omega))
theorem laws_markText_l0 : ∀ (m : Nat) (n : Int) (s : ByteArray), 0 ≤ n → n ≤ m → (s.size : Int) + n ≤ 4611686018427387904 → ∃ t, Ev (fun k => laws_markText.l0 k n s) t := by
  intro m
  induction m with
  | zero =>
    intro n s h0 h1 h2
    exact ⟨(⟨#[109]⟩ : ByteArray) ++ s, Ev.succ (by simp only [laws_markText.l0]; exact Ev.neg (by omega) (Ev.pos (by omega) (Ev.now _)))⟩
  | succ m ih =>
    intro n s h0 h1 h2
    by_cases hn : 0 < n
    · have e1 : Int.tdiv n 10 = n / 10 := Int.tdiv_eq_ediv_of_nonneg h0
      have e2 : wrap64 (n / 10) = n / 10 := wid (by omega) (by omega)
      have hsz : ∀ c : Int, ((strOfNums [c] ++ s).size : Int) = 1 + s.size := by intro c; rw [ByteArray.size_append, strOne]; omega
      obtain ⟨t, ht⟩ := ih (n / 10) (strOfNums [(wrap64 (48 + (Int.tmod n 10))) % 256] ++ s) (by omega) (by omega) (by rw [hsz]; omega)
      refine ⟨t, Ev.succ ?_⟩
      simp only [laws_markText.l0, e1, e2]
      refine Ev.pos (by omega) (Ev.sb (Ev.pos (by rw [strOne]; omega) ht))
    · exact ⟨(⟨#[109]⟩ : ByteArray) ++ s, Ev.succ (by simp only [laws_markText.l0]; exact Ev.neg (by omega) (Ev.pos (by omega) (Ev.now _)))⟩
theorem laws_markText_some (n : Int) (h : n ≤ 4611686018427387904) : ∃ t, Ev (fun k => laws_markText.f k n) t := by
  simp only [laws_markText.f]
  by_cases c : n ≤ 0
  · exact ⟨_, Ev.pos c (Ev.now _)⟩
  · obtain ⟨t, ht⟩ := laws_markText_l0 n.toNat n (⟨#[]⟩ : ByteArray) (by omega) (by omega) (by have : (⟨#[]⟩ : ByteArray).size = 0 := rfl; omega)
    exact ⟨t, Ev.neg c ht⟩
noncomputable def mtx (n : Int) : ByteArray := @Classical.epsilon ByteArray ⟨ByteArray.empty⟩ (fun t => Ev (fun k => laws_markText.f k n) t)
theorem mtx_ev (n : Int) (h : n ≤ 4611686018427387904) : Ev (fun k => laws_markText.f k n) (mtx n) := Classical.epsilon_spec (p := fun t => Ev (fun k => laws_markText.f k n) t) (laws_markText_some n h)
noncomputable def mk_st_157 (K : Int) : S157 := (⟨(mtx K), (K + 1)⟩ : S157)
theorem laws_markSettingS_l0 (K : Int) (h0 : 0 ≤ K) : ∀ (d i : Nat) (acc : List (S157)), i + d = acc.length → K + 2 * (acc.length : Int) ≤ 4611686018427387904 → (∀ j, j < i → acc.getD j z157 = mk_st_157 (K + 2 * (j : Int))) →
    ∃ l', Ev (fun k => laws_markSettingS.l0 k acc (K + 2 * (i : Int)) (i : Int)) (K + 2 * (acc.length : Int), l') ∧ l'.length = acc.length ∧ ∀ j, j < acc.length → l'.getD j z157 = mk_st_157 (K + 2 * (j : Int)) := by
  intro d
  induction d with
  | zero =>
    intro i acc hi hb hj
    have hi2 : i = acc.length := by omega
    subst hi2
    refine ⟨acc, Ev.succ ?_, rfl, hj⟩
    simp only [laws_markSettingS.l0]
    exact Ev.neg (by omega) (Ev.now _)
  | succ d ih =>
    intro i acc hi hb hj
    have hlt : i < acc.length := by omega
    obtain ⟨X, hX⟩ : ∃ X : Int, K + 2 * (i : Int) = X := ⟨_, rfl⟩
    have w1 : wrap64 (X + 1) = X + 1 := wid (by omega) (by omega)
    have w2 : wrap64 (X + 1 + 1) = X + 1 + 1 := wid (by omega) (by omega)
    have hrs : ∀ v, rd_T157 (acc.set (i : Int).toNat v) (i : Int) = v := fun v => (getD_set acc i i v z157 hlt).trans (if_pos rfl)
    have hacc : ∀ j, j < i + 1 → (acc.set i (mk_st_157 X)).getD j z157 = mk_st_157 (K + 2 * (j : Int)) := by
      intro j hj2
      rw [getD_set acc i j _ z157 hlt]
      by_cases e : j = i
      · subst e; rw [if_pos rfl, hX]
      · rw [if_neg e]; exact hj j (by omega)
    obtain ⟨l', hl', hln, hlj⟩ := ih (i + 1) (acc.set i (mk_st_157 X)) (by simp; omega) (by simpa using hb) hacc
    simp only [List.length_set] at hl' hln hlj
    refine ⟨l', Ev.succ ?_, hln, hlj⟩
    rw [hX]
    have hX2 : K + 2 * ((i + 1 : Nat) : Int) = X + 1 + 1 := by omega
    rw [hX2] at hl'
    simp only [laws_markSettingS.l0, w1, w2, wnat i (by omega)]
    repeat first | ((with_reducible refine Ev.pos ?_ ?_); omega) | ((with_reducible refine Ev.bind (mtx_ev _ ?_) ?_); omega) | (with_reducible refine Ev.sb ?_)
    (try simp only [List.set_set, hrs])
    exact hl'
theorem laws_markSettingS_ev (l : List (S157)) (K : Int) (h0 : 0 ≤ K) (hb : K + 2 * (l.length : Int) ≤ 4611686018427387904) : ∃ l', Ev (fun k => laws_markSettingS.f k l K) (K + 2 * (l.length : Int), l') ∧ l'.length = l.length ∧ ∀ j, j < l.length → l'.getD j z157 = mk_st_157 (K + 2 * (j : Int)) := by
  have h := laws_markSettingS_l0 K h0 l.length 0 l (by omega) hb (fun j h => absurd h (by omega))
  simpa only [laws_markSettingS.f, Int.natCast_zero, Int.mul_zero, Int.add_zero] using h
theorem laws_markVersionS_l0 : ∀ (d i : Nat) (acc : List (S119)) (K : Int), i + d = acc.length → 0 ≤ K → K + (d : Int) * 2097155 ≤ 4611686018427387904 → acc.length ≤ 1048576 → (∀ j, i ≤ j → j < acc.length → ((acc.getD j z119).f3).length ≤ 1048576) →
    ∃ (K' : Int) (l' : List (S119)), Ev (fun k => laws_markVersionS.l0 k acc K (i : Int)) (K', l') ∧ 0 ≤ K' ∧ K' ≤ K + (d : Int) * 2097155 := by
  intro d
  induction d with
  | zero =>
    intro i acc K hi h0 hb hl hj
    refine ⟨K, acc, Ev.succ ?_, h0, by omega⟩
    simp only [laws_markVersionS.l0]
    exact Ev.neg (by omega) (Ev.now _)
  | succ d ih =>
    intro i acc K hi h0 hb hl hj
    have hlt : i < acc.length := by omega
    have hin : ((rd_T119 acc (i : Int)).f3).length ≤ 1048576 := hj i (Nat.le_refl _) hlt
    have w1 : wrap64 (K + 1) = K + 1 := wid (by omega) (by omega)
    have w2 : wrap64 (K + 1 + 1) = K + 1 + 1 := wid (by omega) (by omega)
    have w3 : wrap64 (K + 1 + 1 + 1) = K + 1 + 1 + 1 := wid (by omega) (by omega)
    obtain ⟨m, hm, _, _⟩ := laws_markSettingS_ev ((rd_T119 acc (i : Int)).f3) (K + 1 + 1 + 1) (by omega) (by omega)
    obtain ⟨K', l', h1, h2, h3⟩ := ih (i + 1) (acc.set i (⟨K, K + 1, mtx (K + 1 + 1), m⟩ : S119)) (K + 1 + 1 + 1 + 2 * (((rd_T119 acc (i : Int)).f3).length : Int)) (by simp; omega) (by omega) (by omega) (by simpa using hl) (fun j hj1 hj2 => by
      rw [getD_set acc i j _ z119 hlt, if_neg (by omega)]
      exact hj j (by omega) (by simpa using hj2))
    refine ⟨K', l', Ev.succ ?_, h2, by omega⟩
    simp only [laws_markVersionS.l0, w1, w2, w3, wnat i (by omega)]
    refine Ev.pos (by omega) (Ev.pos (by omega) ?_)
    repeat first | ((with_reducible refine Ev.bind (mtx_ev _ ?_) ?_); omega)
    exact Ev.bind hm h1
theorem laws_markVersionS_some (l : List (S119)) (hl : (smL sm119) l) (K : Int) (h0 : 0 ≤ K) (h1 : K ≤ 1125899906842624) : ∃ (K' : Int) (l' : List (S119)), Ev (fun k => laws_markVersionS.f k l K) (K', l') ∧ 0 ≤ K' ∧ K' ≤ 2305843009213693952 := by
  have hn := hl.1
  obtain ⟨K', l', h2, h3, h4⟩ := laws_markVersionS_l0 l.length 0 l K (by omega) h0 (by omega) hn (fun j _ hj => (smL_get hl z119 hj).2.2.2.1)
  exact ⟨K', l', h2, h3, by omega⟩
theorem laws_heldSettingS_l0 (K : Int) (h0 : 0 ≤ K) (l : List (S157)) (hb : K + 2 * (l.length : Int) ≤ 4611686018427387904) (hj : ∀ j, j < l.length → l.getD j z157 = mk_st_157 (K + 2 * (j : Int))) : ∀ (d i : Nat), i + d = l.length →
    Ev (fun k => laws_heldSettingS.l0 k l (K + 2 * (i : Int)) (i : Int)) (K + 2 * (l.length : Int)) := by
  intro d
  induction d with
  | zero =>
    intro i hi
    have hi2 : i = l.length := by omega
    subst hi2
    refine Ev.succ ?_
    simp only [laws_heldSettingS.l0]
    exact Ev.neg (by omega) (Ev.now _)
  | succ d ih =>
    intro i hi
    have hlt : i < l.length := by omega
    have hg : rd_T157 l (i : Int) = mk_st_157 (K + 2 * (i : Int)) := hj i hlt
    obtain ⟨X, hX⟩ : ∃ X : Int, K + 2 * (i : Int) = X := ⟨_, rfl⟩
    rw [hX] at hg
    have w1 : wrap64 (X + 1) = X + 1 := wid (by omega) (by omega)
    have w2 : wrap64 (X + 1 + 1) = X + 1 + 1 := wid (by omega) (by omega)
    have hr := ih (i + 1) (by omega)
    have hX2 : K + 2 * ((i + 1 : Nat) : Int) = X + 1 + 1 := by omega
    rw [hX2] at hr
    rw [hX]
    refine Ev.succ ?_
    simp only [laws_heldSettingS.l0, w1, w2, wnat i (by omega), hg, mk_st_157]
    repeat first | (with_reducible exact hr) | ((with_reducible refine Ev.pos ?_ ?_); first | omega | trivial | with_reducible rfl) | ((with_reducible refine Ev.neg ?_ ?_); focus (simp; done)) | ((with_reducible refine Ev.bind (mtx_ev _ ?_) ?_); omega) | (with_reducible refine Ev.sb ?_)
theorem laws_heldSettingS_ev (K : Int) (h0 : 0 ≤ K) (l : List (S157)) (hb : K + 2 * (l.length : Int) ≤ 4611686018427387904) (hj : ∀ j, j < l.length → l.getD j z157 = mk_st_157 (K + 2 * (j : Int))) : Ev (fun k => laws_heldSettingS.f k l K) (K + 2 * (l.length : Int)) := by
  have h := laws_heldSettingS_l0 K h0 l hb hj l.length 0 (by omega)
  simpa only [laws_heldSettingS.f, Int.natCast_zero, Int.mul_zero, Int.add_zero] using h
end Go.Proofs.Ytnmdljdkbpgdaaa.QCommitState
