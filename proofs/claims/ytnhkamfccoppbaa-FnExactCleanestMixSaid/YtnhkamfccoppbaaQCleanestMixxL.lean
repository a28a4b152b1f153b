/- The plain laws of the laws' own helpers: sizes, copies, comparisons, marks. Conditions: those that each states. -/
import Derived.Test.YtnhkamfccoppbaaQCleanestMixx1
import Derived.Test.YtnhkamfccoppbaaQCleanestMixx11
import Derived.Test.YtnhkamfccoppbaaQCleanestMixxO
import Derived.Test.YtnhkamfccoppbaaQEv
namespace Go.Proofs.Ytnhkamfccoppbaa.QCleanestMix
open Go.RowKit Go.Proofs.YtnhkamfccoppbaaW.PrintWords Go.Proofs.Ytnhkamfccoppbaa.QOpen Go.Proofs.Ytnhkamfccoppbaa.QEv
set_option linter.unusedVariables false
set_option linter.unusedSimpArgs false
def sm40 (x : S40) : Prop := smS x.f0 ∧ smT x.f1 ∧ smT x.f2 ∧ smT x.f3
theorem laws_szFuel_ev (x : S40) (left : Int) (hx : wf40 x) (h0 : 0 ≤ left) (h1 : left ≤ 1048576) : ∃ t, Ev (fun k => laws_szFuel.f (x.f0) (x.f1) (x.f2) (x.f3) left) t ∧ -1 ≤ t ∧ t ≤ left ∧ (0 ≤ t → sm40 x) := by
  obtain ⟨hx0, hx1, hx2, hx3⟩ := hx
  simp only [laws_szFuel.f]
  have hs0 : x.f0.size ≤ 9223372036854775807 := hx0
  have w0 : wrap64 (left - (x.f0.size : Int)) = left - (x.f0.size : Int) := wid (by omega) (by omega)
  simp only [w0]
  by_cases c0 : left - (x.f0.size : Int) < 0
  · exact ⟨-1, Ev.pos c0 (Ev.now _), by omega, by omega, fun h => absurd h (by omega)⟩
  exact ⟨(left - (x.f0.size : Int)), Ev.neg c0 (Ev.now _), by omega, by omega, fun h => ⟨(show x.f0.size ≤ 1048576 by omega), trivial, trivial, trivial⟩⟩
theorem laws_szFuelS_l0 (l : List (S40)) (hw : (wfL wf40) l) : ∀ (d i : Nat) (left : Int), i + d = l.length → 0 ≤ left → left ≤ 1048576 →
    ∃ t, Ev (fun k => laws_szFuelS.l0 k l left (i : Int)) t ∧ -1 ≤ t ∧ t ≤ left ∧ (0 ≤ t → ∀ j, i ≤ j → j < l.length → sm40 (l.getD j z40)) := by
  intro d
  induction d with
  | zero =>
    intro i left hi h0 h1
    refine ⟨left, ?_, by omega, by omega, fun _ j hj hj2 => by omega⟩
    refine Ev.succ ?_
    simp only [laws_szFuelS.l0]
    exact Ev.neg (by omega) (Ev.now _)
  | succ d ih =>
    intro i left hi h0 h1
    have hlt : i < l.length := by omega
    have hl := hw.1
    obtain ⟨t, ht, ht0, ht1, ht2⟩ := laws_szFuel_ev (rd_T40 l (i : Int)) left (wfL_get hw _ hlt) h0 h1
    by_cases hn : t < 0
    · refine ⟨-1, ?_, by omega, by omega, fun h => absurd h (by omega)⟩
      refine Ev.succ ?_
      simp only [laws_szFuelS.l0]
      refine Ev.pos (by omega) (Ev.pos (by omega) (Ev.bind ht ?_))
      exact Ev.pos hn (Ev.now _)
    · obtain ⟨u, hu, hu0, hu1, hu2⟩ := ih (i + 1) t (by omega) (by omega) (by omega)
      refine ⟨u, ?_, hu0, by omega, fun h j hj hj2 => ?_⟩
      · refine Ev.succ ?_
        simp only [laws_szFuelS.l0]
        refine Ev.pos (by omega) (Ev.pos (by omega) (Ev.bind ht ?_))
        refine Ev.neg hn ?_
        rw [wnat i (by omega)]
        exact hu
      · by_cases e : j = i
        · subst e; exact ht2 (by omega)
        · exact hu2 h j (by omega) hj2
theorem laws_szFuelS_ev (l : List (S40)) (left : Int) (hw : (wfL wf40) l) (h0 : 0 ≤ left) (h1 : left ≤ 1048576) : ∃ t, Ev (fun k => laws_szFuelS.f k l left) t ∧ -1 ≤ t ∧ t ≤ left ∧ (0 ≤ t → (smL sm40) l) := by
  have hl := hw.1
  have w0 : wrap64 (left - (l.length : Int)) = left - (l.length : Int) := wid (by omega) (by omega)
  simp only [laws_szFuelS.f, w0]
  by_cases c : left - (l.length : Int) < 0
  · exact ⟨-1, Ev.pos c (Ev.now _), by omega, by omega, fun h => absurd h (by omega)⟩
  · obtain ⟨u, hu, hu0, hu1, hu2⟩ := laws_szFuelS_l0 l hw l.length 0 (left - (l.length : Int)) (by omega) (by omega) (by omega)
    exact ⟨u, Ev.neg c hu, hu0, by omega, fun h => smL_of z40 (by omega) (fun j hj => hu2 h j (by omega) hj)⟩
def cv40 (x : S40) : S46 := ⟨x.f0, x.f1, x.f2, x.f3⟩
def sm46 (x : S46) : Prop := smS x.f0 ∧ smT x.f1 ∧ smT x.f2 ∧ smT x.f3
theorem cv40_sm (x : S40) (h : sm40 x) : sm46 (cv40 x) := ⟨h.1, h.2.1, h.2.2.1, h.2.2.2⟩
theorem laws_toFuel_ev (x : S40) (hx : sm40 x) : Ev (fun k => laws_toFuel.f (x.f0) (x.f1) (x.f2) (x.f3)) ((cv40 x).f0, (cv40 x).f1, (cv40 x).f2, (cv40 x).f3) := by
  simp only [laws_toFuel.f]
  exact Ev.now _
theorem laws_toFuelS_l0 (l : List (S40)) (hs : (smL sm40) l) : ∀ (d i : Nat) (acc : List (S46)), i + d = l.length → acc.length = l.length → (∀ j, j < i → acc.getD j z46 = (cv40 (l.getD j z40))) →
    Ev (fun k => laws_toFuelS.l0 k l acc (i : Int)) (l.map cv40) := by
  intro d
  induction d with
  | zero =>
    intro i acc hi ha hj
    refine Ev.succ ?_
    simp only [laws_toFuelS.l0]
    refine Ev.neg (by omega) (Ev.eqn (Ev.now _) ?_)
    refine ext_getD z46 (by simp [ha]) (fun j h => ?_)
    rw [hj j (by omega), getD_map cv40 l j z40 z46 (by omega)]
  | succ d ih =>
    intro i acc hi ha hj
    have hl := hs.1
    have hlt : i < l.length := by omega
    refine Ev.succ ?_
    simp only [laws_toFuelS.l0]
    refine Ev.pos (by omega) (Ev.pos (by omega) (Ev.bind (laws_toFuel_ev (rd_T40 l (i : Int)) (smL_get hs _ hlt)) (Ev.pos (by omega) ?_)))
    rw [wnat i (by omega)]
    refine ih (i + 1) _ (by omega) (by simp [ha]) (fun j hj2 => ?_)
    refine (getD_set acc i j _ z46 (by omega)).trans ?_
    by_cases e : j = i
    · subst e; rw [if_pos rfl]; rfl
    · rw [if_neg e]; exact hj j (by omega)
theorem laws_toFuelS_ev (l : List (S40)) (hs : (smL sm40) l) : Ev (fun k => laws_toFuelS.f k l) (l.map cv40) := by
  have hl := hs.1
  simp only [laws_toFuelS.f]
  refine Ev.pos (by omega) (Ev.pos (by omega) ?_)
  exact laws_toFuelS_l0 l hs l.length 0 _ (by omega) (by simp) (fun j h => absurd h (by omega))
theorem laws_eqFuel_refl (x : S46) : Ev (fun k => laws_eqFuel.f (x.f0) (x.f1) (x.f2) (x.f3) (x.f0) (x.f1) (x.f2) (x.f3)) true := by
  simp only [laws_eqFuel.f]
  refine Ev.pos (by first | rfl | trivial) ?_
  refine Ev.pos (by first | rfl | trivial) ?_
  refine Ev.pos (by first | rfl | trivial) ?_
  refine Ev.pos (by first | rfl | trivial) ?_
  exact Ev.now _
theorem laws_eqFuelS_l0 (l : List (S46)) (hl : l.length ≤ 9223372036854775807) : ∀ (d i : Nat), i + d = l.length → Ev (fun k => laws_eqFuelS.l0 k l l (i : Int)) true := by
  intro d
  induction d with
  | zero =>
    intro i hi
    refine Ev.succ ?_
    simp only [laws_eqFuelS.l0]
    exact Ev.neg (by omega) (Ev.now _)
  | succ d ih =>
    intro i hi
    refine Ev.succ ?_
    simp only [laws_eqFuelS.l0]
    refine Ev.pos (by omega) (Ev.pos (by omega) (Ev.pos (by omega) ?_))
    refine Ev.bind (laws_eqFuel_refl (rd_T46 l (i : Int))) (Ev.pos (by first | rfl | trivial) ?_)
    rw [wnat i (by omega)]
    exact ih (i + 1) (by omega)
theorem laws_eqFuelS_refl (l : List (S46)) (hl : l.length ≤ 9223372036854775807) : Ev (fun k => laws_eqFuelS.f k l l) true := by
  simp only [laws_eqFuelS.f]
  exact Ev.pos (by first | rfl | trivial) (laws_eqFuelS_l0 l hl l.length 0 (by omega))
theorem laws_eqInt64S_l0 (l : List Int) (hl : l.length ≤ 9223372036854775807) : ∀ (d i : Nat), i + d = l.length → Ev (fun k => laws_eqInt64S.l0 k l l (i : Int)) true := by
  intro d
  induction d with
  | zero =>
    intro i hi
    refine Ev.succ ?_
    simp only [laws_eqInt64S.l0]
    exact Ev.neg (by omega) (Ev.now _)
  | succ d ih =>
    intro i hi
    refine Ev.succ ?_
    simp only [laws_eqInt64S.l0]
    refine Ev.pos (by omega) (Ev.pos (by omega) (Ev.pos (by omega) ?_))
    refine Ev.pos (by first | rfl | trivial) ?_
    rw [wnat i (by omega)]
    exact ih (i + 1) (by omega)
theorem laws_eqInt64S_refl (l : List Int) (hl : l.length ≤ 9223372036854775807) : Ev (fun k => laws_eqInt64S.f k l l) true := by
  simp only [laws_eqInt64S.f]
  exact Ev.pos (by first | rfl | trivial) (laws_eqInt64S_l0 l hl l.length 0 (by omega))
theorem laws_markText_l0 : ∀ (m : Nat) (n : Int) (s : ByteArray), 0 ≤ n → n ≤ m → (s.size : Int) + n ≤ 4611686018427387904 → ∃ t, Ev (fun k => laws_markText.l0 k n s) t := by
  intro m
  induction m with
  | zero =>
    intro n s h0 h1 h2
    exact ⟨(⟨#[109]⟩ : ByteArray) ++ s, Ev.succ (by simp only [laws_markText.l0]; exact Ev.neg (by omega) (Ev.pos (by omega) (Ev.now _)))⟩
  | succ m ih =>
    intro n s h0 h1 h2
    by_cases hn : 0 < n
    · have e1 : Int.tdiv n 10 = n / 10 := Int.tdiv_eq_ediv_of_nonneg h0
      have e2 : wrap64 (n / 10) = n / 10 := wid (by omega) (by omega)
      have hsz : ∀ c : Int, ((strOfNums [c] ++ s).size : Int) = 1 + s.size := by intro c; rw [ByteArray.size_append, strOne]; omega
      obtain ⟨t, ht⟩ := ih (n / 10) (strOfNums [(wrap64 (48 + (Int.tmod n 10))) % 256] ++ s) (by omega) (by omega) (by rw [hsz]; omega)
      refine ⟨t, Ev.succ ?_⟩
      simp only [laws_markText.l0, e1, e2]
      refine Ev.pos (by omega) (Ev.sb (Ev.pos (by rw [strOne]; omega) ht))
    · exact ⟨(⟨#[109]⟩ : ByteArray) ++ s, Ev.succ (by simp only [laws_markText.l0]; exact Ev.neg (by omega) (Ev.pos (by omega) (Ev.now _)))⟩
theorem laws_markText_some (n : Int) (h : n ≤ 4611686018427387904) : ∃ t, Ev (fun k => laws_markText.f k n) t := by
  simp only [laws_markText.f]
  by_cases c : n ≤ 0
  · exact ⟨_, Ev.pos c (Ev.now _)⟩
  · obtain ⟨t, ht⟩ := laws_markText_l0 n.toNat n (⟨#[]⟩ : ByteArray) (by omega) (by omega) (by have : (⟨#[]⟩ : ByteArray).size = 0 := rfl; omega)
    exact ⟨t, Ev.neg c ht⟩
noncomputable def mtx (n : Int) : ByteArray := @Classical.epsilon ByteArray ⟨ByteArray.empty⟩ (fun t => Ev (fun k => laws_markText.f k n) t)
theorem mtx_ev (n : Int) (h : n ≤ 4611686018427387904) : Ev (fun k => laws_markText.f k n) (mtx n) := Classical.epsilon_spec (p := fun t => Ev (fun k => laws_markText.f k n) t) (laws_markText_some n h)
noncomputable def mk_st_46 (K : Int) : S46 := (⟨(mtx K), (K + 1), (K + 1 + 1), (K + 1 + 1 + 1)⟩ : S46)
theorem laws_markFuelS_l0 (K : Int) (h0 : 0 ≤ K) : ∀ (d i : Nat) (acc : List (S46)), i + d = acc.length → K + 4 * (acc.length : Int) ≤ 4611686018427387904 → (∀ j, j < i → acc.getD j z46 = mk_st_46 (K + 4 * (j : Int))) →
    ∃ l', Ev (fun k => laws_markFuelS.l0 k acc (K + 4 * (i : Int)) (i : Int)) (K + 4 * (acc.length : Int), l') ∧ l'.length = acc.length ∧ ∀ j, j < acc.length → l'.getD j z46 = mk_st_46 (K + 4 * (j : Int)) := by
  intro d
  induction d with
  | zero =>
    intro i acc hi hb hj
    have hi2 : i = acc.length := by omega
    subst hi2
    refine ⟨acc, Ev.succ ?_, rfl, hj⟩
    simp only [laws_markFuelS.l0]
    exact Ev.neg (by omega) (Ev.now _)
  | succ d ih =>
    intro i acc hi hb hj
    have hlt : i < acc.length := by omega
    obtain ⟨X, hX⟩ : ∃ X : Int, K + 4 * (i : Int) = X := ⟨_, rfl⟩
    have w1 : wrap64 (X + 1) = X + 1 := wid (by omega) (by omega)
    have w2 : wrap64 (X + 1 + 1) = X + 1 + 1 := wid (by omega) (by omega)
    have w3 : wrap64 (X + 1 + 1 + 1) = X + 1 + 1 + 1 := wid (by omega) (by omega)
    have w4 : wrap64 (X + 1 + 1 + 1 + 1) = X + 1 + 1 + 1 + 1 := wid (by omega) (by omega)
    have hrs : ∀ v, rd_T46 (acc.set (i : Int).toNat v) (i : Int) = v := fun v => (getD_set acc i i v z46 hlt).trans (if_pos rfl)
    have hacc : ∀ j, j < i + 1 → (acc.set i (mk_st_46 X)).getD j z46 = mk_st_46 (K + 4 * (j : Int)) := by
      intro j hj2
      rw [getD_set acc i j _ z46 hlt]
      by_cases e : j = i
      · subst e; rw [if_pos rfl, hX]
      · rw [if_neg e]; exact hj j (by omega)
    obtain ⟨l', hl', hln, hlj⟩ := ih (i + 1) (acc.set i (mk_st_46 X)) (by simp; omega) (by simpa using hb) hacc
    simp only [List.length_set] at hl' hln hlj
    refine ⟨l', Ev.succ ?_, hln, hlj⟩
    rw [hX]
    have hX2 : K + 4 * ((i + 1 : Nat) : Int) = X + 1 + 1 + 1 + 1 := by omega
    rw [hX2] at hl'
    simp only [laws_markFuelS.l0, w1, w2, w3, w4, wnat i (by omega)]
    repeat first | ((with_reducible refine Ev.pos ?_ ?_); omega) | ((with_reducible refine Ev.bind (mtx_ev _ ?_) ?_); omega) | (with_reducible refine Ev.sb ?_)
    (try simp only [List.set_set, hrs])
    exact hl'
theorem laws_markFuelS_ev (l : List (S46)) (K : Int) (h0 : 0 ≤ K) (hb : K + 4 * (l.length : Int) ≤ 4611686018427387904) : ∃ l', Ev (fun k => laws_markFuelS.f k l K) (K + 4 * (l.length : Int), l') ∧ l'.length = l.length ∧ ∀ j, j < l.length → l'.getD j z46 = mk_st_46 (K + 4 * (j : Int)) := by
  have h := laws_markFuelS_l0 K h0 l.length 0 l (by omega) hb (fun j h => absurd h (by omega))
  simpa only [laws_markFuelS.f, Int.natCast_zero, Int.mul_zero, Int.add_zero] using h
noncomputable def mk_i64 (K : Int) : Int := (K)
theorem laws_markInt64S_l0 (K : Int) (h0 : 0 ≤ K) : ∀ (d i : Nat) (acc : List Int), i + d = acc.length → K + 1 * (acc.length : Int) ≤ 4611686018427387904 → (∀ j, j < i → acc.getD j 0 = mk_i64 (K + 1 * (j : Int))) →
    ∃ l', Ev (fun k => laws_markInt64S.l0 k acc (K + 1 * (i : Int)) (i : Int)) (K + 1 * (acc.length : Int), l') ∧ l'.length = acc.length ∧ ∀ j, j < acc.length → l'.getD j 0 = mk_i64 (K + 1 * (j : Int)) := by
  intro d
  induction d with
  | zero =>
    intro i acc hi hb hj
    have hi2 : i = acc.length := by omega
    subst hi2
    refine ⟨acc, Ev.succ ?_, rfl, hj⟩
    simp only [laws_markInt64S.l0]
    exact Ev.neg (by omega) (Ev.now _)
  | succ d ih =>
    intro i acc hi hb hj
    have hlt : i < acc.length := by omega
    obtain ⟨X, hX⟩ : ∃ X : Int, K + 1 * (i : Int) = X := ⟨_, rfl⟩
    have w1 : wrap64 (X + 1) = X + 1 := wid (by omega) (by omega)
    have hacc : ∀ j, j < i + 1 → (acc.set i (mk_i64 X)).getD j 0 = mk_i64 (K + 1 * (j : Int)) := by
      intro j hj2
      rw [getD_set acc i j _ 0 hlt]
      by_cases e : j = i
      · subst e; rw [if_pos rfl, hX]
      · rw [if_neg e]; exact hj j (by omega)
    obtain ⟨l', hl', hln, hlj⟩ := ih (i + 1) (acc.set i (mk_i64 X)) (by simp; omega) (by simpa using hb) hacc
    simp only [List.length_set] at hl' hln hlj
    refine ⟨l', Ev.succ ?_, hln, hlj⟩
    rw [hX]
    have hX2 : K + 1 * ((i + 1 : Nat) : Int) = X + 1 := by omega
    rw [hX2] at hl'
    simp only [laws_markInt64S.l0, w1, wnat i (by omega)]
    repeat first | ((with_reducible refine Ev.pos ?_ ?_); omega) | ((with_reducible refine Ev.bind (mtx_ev _ ?_) ?_); omega) | (with_reducible refine Ev.sb ?_)
    (try simp only [List.set_set])
    exact hl'
theorem laws_markInt64S_ev (l : List Int) (K : Int) (h0 : 0 ≤ K) (hb : K + 1 * (l.length : Int) ≤ 4611686018427387904) : ∃ l', Ev (fun k => laws_markInt64S.f k l K) (K + 1 * (l.length : Int), l') ∧ l'.length = l.length ∧ ∀ j, j < l.length → l'.getD j 0 = mk_i64 (K + 1 * (j : Int)) := by
  have h := laws_markInt64S_l0 K h0 l.length 0 l (by omega) hb (fun j h => absurd h (by omega))
  simpa only [laws_markInt64S.f, Int.natCast_zero, Int.mul_zero, Int.add_zero] using h
theorem laws_heldInt64S_l0 (K : Int) (h0 : 0 ≤ K) (l : List Int) (hb : K + 1 * (l.length : Int) ≤ 4611686018427387904) (hj : ∀ j, j < l.length → l.getD j 0 = mk_i64 (K + 1 * (j : Int))) : ∀ (d i : Nat), i + d = l.length →
    Ev (fun k => laws_heldInt64S.l0 k l (K + 1 * (i : Int)) (i : Int)) (K + 1 * (l.length : Int)) := by
  intro d
  induction d with
  | zero =>
    intro i hi
    have hi2 : i = l.length := by omega
    subst hi2
    refine Ev.succ ?_
    simp only [laws_heldInt64S.l0]
    exact Ev.neg (by omega) (Ev.now _)
  | succ d ih =>
    intro i hi
    have hlt : i < l.length := by omega
    have hg : rd l (i : Int) = mk_i64 (K + 1 * (i : Int)) := hj i hlt
    obtain ⟨X, hX⟩ : ∃ X : Int, K + 1 * (i : Int) = X := ⟨_, rfl⟩
    rw [hX] at hg
    have w1 : wrap64 (X + 1) = X + 1 := wid (by omega) (by omega)
    have hr := ih (i + 1) (by omega)
    have hX2 : K + 1 * ((i + 1 : Nat) : Int) = X + 1 := by omega
    rw [hX2] at hr
    rw [hX]
    refine Ev.succ ?_
    simp only [laws_heldInt64S.l0, w1, wnat i (by omega), hg, mk_i64]
    repeat first | (with_reducible exact hr) | ((with_reducible refine Ev.pos ?_ ?_); first | omega | trivial | with_reducible rfl) | ((with_reducible refine Ev.neg ?_ ?_); focus (simp; done)) | ((with_reducible refine Ev.bind (mtx_ev _ ?_) ?_); omega) | (with_reducible refine Ev.sb ?_)
theorem laws_heldInt64S_ev (K : Int) (h0 : 0 ≤ K) (l : List Int) (hb : K + 1 * (l.length : Int) ≤ 4611686018427387904) (hj : ∀ j, j < l.length → l.getD j 0 = mk_i64 (K + 1 * (j : Int))) : Ev (fun k => laws_heldInt64S.f k l K) (K + 1 * (l.length : Int)) := by
  have h := laws_heldInt64S_l0 K h0 l hb hj l.length 0 (by omega)
  simpa only [laws_heldInt64S.f, Int.natCast_zero, Int.mul_zero, Int.add_zero] using h
end Go.Proofs.Ytnhkamfccoppbaa.QCleanestMix
