/- FnExactOutdoorFor: the program's OutdoorFor (the first n = -t of which the sum reaches the load) and the reference's (the last t) return one and the same for all arguments, and the list stays as it was. Conditions: none beyond the statement's own guard. -/
import Derived.Test.YtamiipnoeffjkaaQOutdoorForx2
import Derived.Test.YtamiipnoeffjkaaQOutdoorForx3
import Derived.Test.YtamiipnoeffjkaaQOutdoorForx6
import Derived.Test.YtamiipnoeffjkaaQOutdoorForx7
import Derived.Test.YtamiipnoeffjkaaQOutdoorForx9
import Derived.Test.YtamiipnoeffjkaaQOutdoorForxL
import Derived.Test.YtamiipnoeffjkaaQOutdoorForxDBuildings
import Derived.Test.YtamiipnoeffjkaaQOutdoorForxDSumBuild
namespace Go.Proofs.Ytamiipnoeffjkaa.Pure
open Go.RowKit Go.Proofs.Ytamiipnoeffjkaa.QOutdoorFor Go.Proofs.YtamiipnoeffjkaaW.PrintWords Go.Proofs.Ytamiipnoeffjkaa.QOpen Go.Proofs.Ytamiipnoeffjkaa.QEv
set_option linter.unusedVariables false
set_option linter.unusedSimpArgs false
theorem rdiv_mono (a c b : Int) (hb : 0 < b) (h0 : 0 ≤ a) (h : a ≤ c) : rdiv a b ≤ rdiv c b := by
  unfold rdiv
  rw [if_neg (by omega), if_neg (by omega)]
  exact Int.ediv_le_ediv (by omega) (by omega)
theorem loadv_mono (x : S96) (hx : BuildOk x) (s t : Int) (h : Nat) (hst : s ≤ t) : loadv x t h ≤ loadv x s h := by
  obtain ⟨_, _, _, _, b0, _⟩ := hx
  unfold loadv
  have m : max 0 (x.f4 - t) ≤ max 0 (x.f4 - s) := by omega
  have m0 : 0 ≤ max 0 (x.f4 - t) := by omega
  have := rdiv_mono (x.f3 * max 0 (x.f4 - t)) (x.f3 * max 0 (x.f4 - s)) 100 (by omega) (Int.mul_nonneg b0 m0) (Int.mul_le_mul_of_nonneg_left m b0)
  omega
theorem sumv_mono (s t : Int) (h : Nat) (hst : s ≤ t) : ∀ l : List S96, (∀ x ∈ l, BuildOk x) → sumv t h l ≤ sumv s h l
  | [], _ => Int.le_refl _
  | x :: l, hl => by
    have a := loadv_mono x (hl x (by simp)) s t h hst
    have b := sumv_mono s t h hst l (fun y hy => hl y (by simp [hy]))
    simp only [sumv]
    omega
theorem outIn (l : List S96) (hn : l.length ≤ 12) (hl : ∀ j, j < l.length → BuildOk (l.getD j z96)) (t : Int) (t0 : -4500 ≤ t) (t1 : t ≤ 4600) (h : Nat) (hh : h < 24) (g : Int) : ∀ (d i : Nat) (acc : Int), i + d = l.length → 0 ≤ acc → acc ≤ (i : Int) * 4000000000 →
    Ev (fun k => impl_OutdoorFor_1.l0 k (-t) acc l (l.length : Int) (i : Int) (h : Int) g) (decide (acc + sumv t h (l.drop i) ≥ g)) := by
  intro d
  induction d with
  | zero =>
    intro i acc hi h0 h1
    rw [drop_end l i hi]
    refine Ev.succ ?_
    simp only [impl_OutdoorFor_1.l0, sumv, Int.add_zero]
    exact Ev.neg (by omega) (Ev.now _)
  | succ d ih =>
    intro i acc hi h0 h1
    have hx := hl i (by omega)
    have er : rd_T96 l (i : Int) = l.getD i z96 := rfl
    obtain ⟨_, li, l0, l1⟩ := load_both _ hx t h hh t0 t1
    rw [drop_step l i z96 (by omega)]
    generalize l.getD i z96 = x at *
    have wt : wrap64 (- -t) = t := by rw [Int.neg_neg]; exact wid (by omega) (by omega)
    have w : wrap64 (acc + loadv x t h) = acc + loadv x t h := wid (by omega) (by omega)
    have hr := ih (i + 1) (acc + loadv x t h) (by omega) (by omega) (by omega)
    refine Ev.succ ?_
    simp only [impl_OutdoorFor_1.l0, er, wt, li, w, Option.bind_some, wnat i (by omega)]
    refine Ev.pos (by omega) (Ev.pos (by omega) (Ev.pos (by omega) (Ev.eqn hr (decide_eq_decide.2 ?_))))
    rw [show sumv t h (x :: l.drop (i + 1)) = loadv x t h + sumv t h (l.drop (i + 1)) from rfl]
    omega
theorem outHas (l : List S96) (hn : l.length ≤ 12) (hl : ∀ j, j < l.length → BuildOk (l.getD j z96)) (h : Nat) (hh : h < 24) (g : Int) (n : Int) (n0 : -4600 ≤ n) (n1 : n ≤ 4500) :
    Ev (fun k => impl_OutdoorFor_1.f k n l (h : Int) g) (decide (sumv (-n) h l ≥ g)) := by
  have := outIn l hn hl (-n) (by omega) (by omega) h hh g l.length 0 0 (by omega) (by omega) (by omega)
  simp only [List.drop_zero, Int.zero_add, Int.neg_neg] at this
  simp only [impl_OutdoorFor_1.f]
  exact this
theorem outFirst (l : List S96) (hn : l.length ≤ 12) (hl : ∀ j, j < l.length → BuildOk (l.getD j z96)) (h : Nat) (hh : h < 24) (g : Int) : ∀ (d : Nat) (i j : Int), j - i ≤ (d : Int) → 0 ≤ i → i ≤ j → j ≤ 8501 →
    (i = 0 ∨ sumv (4500 - i + 1) h l < g) → (j = 8501 ∨ sumv (4500 - j) h l ≥ g) →
    ∃ r : Int, Ev (fun k => impl_firstIn.l0 k (-4500) l (h : Int) g i j) r ∧ 0 ≤ r ∧ r ≤ 8501 ∧ (r = 0 ∨ sumv (4500 - r + 1) h l < g) ∧ (r = 8501 ∨ sumv (4500 - r) h l ≥ g) := by
  intro d
  induction d with
  | zero =>
    intro i j hd h0 h1 h2 h3 h4
    have e : j = i := by omega
    subst e
    refine ⟨j, Ev.succ ?_, h0, h2, h3, h4⟩
    simp only [impl_firstIn.l0]
    exact Ev.neg (by omega) (Ev.now _)
  | succ d ih =>
    intro i j hd h0 h1 h2 h3 h4
    by_cases c : i < j
    · have hm := outHas l hn hl h hh g (-4500 + (i + j) / 2) (by omega) (by omega)
      rw [show -(-4500 + (i + j) / 2) = 4500 - (i + j) / 2 by omega] at hm
      by_cases q : sumv (4500 - (i + j) / 2) h l ≥ g
      · rw [decide_eq_true q] at hm
        obtain ⟨r, k1, k2⟩ := ih i ((i + j) / 2) (by omega) h0 (by omega) (by omega) h3 (Or.inr q)
        refine ⟨r, Ev.succ ?_, k2⟩
        simp only [impl_firstIn.l0]
        exact Ev.pos c (Ev.bind hm (Ev.pos rfl k1))
      · rw [decide_eq_false q] at hm
        obtain ⟨r, k1, k2⟩ := ih ((i + j) / 2 + 1) j (by omega) (by omega) (by omega) h2 (Or.inr (by rw [show 4500 - ((i + j) / 2 + 1) + 1 = 4500 - (i + j) / 2 by omega]; omega)) h4
        refine ⟨r, Ev.succ ?_, k2⟩
        simp only [impl_firstIn.l0]
        exact Ev.pos c (Ev.bind hm (Ev.neg (by decide) k1))
    · have e : j = i := by omega
      subst e
      refine ⟨j, Ev.succ ?_, h0, h2, h3, h4⟩
      simp only [impl_firstIn.l0]
      exact Ev.neg c (Ev.now _)
theorem outLast (l : List S96) (hn : l.length ≤ 12) (hl : ∀ j, j < l.length → BuildOk (l.getD j z96)) (h : Nat) (hh : h < 24) (g : Int) : ∀ (d : Nat) (i j : Int), j - i ≤ (d : Int) → -4000 ≤ i → i ≤ j → j ≤ 4500 →
    sumv i h l ≥ g → (j = 4500 ∨ sumv (j + 1) h l < g) →
    ∃ r : Int, Ev (fun k => spec_OutdoorFor.l0 k l g (h : Int) i j) (r, 0) ∧ -4000 ≤ r ∧ r ≤ 4500 ∧ sumv r h l ≥ g ∧ (r = 4500 ∨ sumv (r + 1) h l < g) := by
  intro d
  induction d with
  | zero =>
    intro i j hd h0 h1 h2 h3 h4
    have e : j = i := by omega
    subst e
    refine ⟨j, Ev.succ ?_, h0, h2, h3, h4⟩
    simp only [spec_OutdoorFor.l0]
    exact Ev.neg (by omega) (Ev.now _)
  | succ d ih =>
    intro i j hd h0 h1 h2 h3 h4
    by_cases c : i < j
    · have w1 : wrap64 (j - i) = j - i := wid (by omega) (by omega)
      have w2 : wrap64 (j - i + 1) = j - i + 1 := wid (by omega) (by omega)
      have w3 : Int.tdiv (j - i + 1) 2 = (j - i + 1) / 2 := Int.tdiv_eq_ediv_of_nonneg (by omega)
      have w4 : wrap64 ((j - i + 1) / 2) = (j - i + 1) / 2 := wid (by omega) (by omega)
      have w5 : wrap64 (i + (j - i + 1) / 2) = i + (j - i + 1) / 2 := wid (by omega) (by omega)
      have w6 : wrap64 (i + (j - i + 1) / 2 - 1) = i + (j - i + 1) / 2 - 1 := wid (by omega) (by omega)
      have hm := (sumBuild_ev l hn hl (i + (j - i + 1) / 2) (by omega) (by omega) h hh).1
      by_cases q : sumv (i + (j - i + 1) / 2) h l ≥ g
      · obtain ⟨r, k1, k2⟩ := ih (i + (j - i + 1) / 2) j (by omega) (by omega) (by omega) h2 q h4
        refine ⟨r, Ev.succ ?_, k2⟩
        simp only [spec_OutdoorFor.l0, w1, w2, w3, w4, w5, w6]
        exact Ev.pos c (Ev.bind hm (Ev.pos q k1))
      · obtain ⟨r, k1, k2⟩ := ih i (i + (j - i + 1) / 2 - 1) (by omega) h0 (by omega) (by omega) h3 (Or.inr (by rw [show i + (j - i + 1) / 2 - 1 + 1 = i + (j - i + 1) / 2 by omega]; omega))
        refine ⟨r, Ev.succ ?_, k2⟩
        simp only [spec_OutdoorFor.l0, w1, w2, w3, w4, w5, w6]
        exact Ev.pos c (Ev.bind hm (Ev.neg q k1))
    · have e : j = i := by omega
      subst e
      refine ⟨j, Ev.succ ?_, h0, h2, h3, h4⟩
      simp only [spec_OutdoorFor.l0]
      exact Ev.neg c (Ev.now _)
theorem out_both (l : List S96) (hl : smL sm96 l) (g c : Int) : ∃ r e : Int, Ev (fun k => spec_OutdoorFor.f k l g c) (r, e) ∧ Ev (fun k => impl_OutdoorFor.f k l g c) (r, e) := by
  obtain ⟨v, h1, h2, h3⟩ := builds_both l hl
  simp only [spec_OutdoorFor.f, impl_OutdoorFor.f, spec_l05Hour.f, impl_hourOk.f, spec_in_eq, impl_within_eq, Option.bind_some, decide_eq_true_eq]
  have js : Ev (fun k => spec_OutdoorFor.j0 k l g c true) ((0 : Int), (2 : Int)) := by
    refine Ev.succ ?_
    simp only [spec_OutdoorFor.j0]
    exact Ev.pos (by first | rfl | trivial) (Ev.now _)
  have ji : Ev (fun k => impl_OutdoorFor.j0 k true l g c) ((0 : Int), (2 : Int)) := by
    refine Ev.succ ?_
    simp only [impl_OutdoorFor.j0]
    exact Ev.pos (by first | rfl | trivial) (Ev.now _)
  cases v with
  | false => exact ⟨0, 1, Ev.bind h1 (Ev.neg (by decide) (Ev.now _)), Ev.bind h2 (Ev.neg (by decide) (Ev.now _))⟩
  | true =>
    by_cases c0 : 0 ≤ g ∧ g ≤ 100000000
    · by_cases c2 : 0 ≤ c ∧ c ≤ 23
      · obtain ⟨h, rfl⟩ : ∃ h : Nat, c = (h : Int) := ⟨c.toNat, by omega⟩
        obtain ⟨hn, hb⟩ := h3 rfl
        have hmem : ∀ x ∈ l, BuildOk x := by
          intro x hx
          obtain ⟨j, hj, e⟩ := List.getElem_of_mem hx
          have := hb j hj
          rwa [getD_at _ _ _ hj, e] at this
        have mono : ∀ s t : Int, s ≤ t → sumv t h l ≤ sumv s h l := fun s t hst => sumv_mono s t h hst l hmem
        obtain ⟨r, k1, r0, r1, r2, r3⟩ := outFirst l hn hb h (by omega) g 8501 0 8501 (by omega) (by omega) (by omega) (by omega) (Or.inl rfl) (Or.inl rfl)
        have kf : Ev (fun k => impl_firstIn.f k (-4500) 4000 l (h : Int) g) (-4500 + r, decide (r < 8501)) := by
          simp only [impl_firstIn.f]
          exact Ev.pos (by omega) (Ev.bind k1 (Ev.now _))
        have wn : wrap64 (-(-4500 + r)) = 4500 - r := by rw [wid (by omega) (by omega)]; omega
        have im : Ev (fun k => impl_OutdoorFor.j0 k (!decide (0 ≤ (h : Int) ∧ (h : Int) ≤ 23)) l g (h : Int)) (if r < 8501 then (4500 - r, (0 : Int)) else (0, 3)) := by
          refine Ev.succ ?_
          simp only [impl_OutdoorFor.j0]
          refine Ev.neg (by rw [decide_eq_true c2]; decide) (Ev.bind kf ?_)
          simp only [impl_orNotFound.f, wn]
          by_cases q : r < 8501
          · rw [if_pos q, decide_eq_true q]
            exact Ev.now _
          · rw [if_neg q, decide_eq_false q]
            exact Ev.now _
        have s0 := (sumBuild_ev l hn hb (-4000) (by omega) (by omega) h (by omega)).1
        have sp : ∀ x : Int × Int, Ev (fun k => (spec_l05Sum.f k l (-4000) (h : Int)).bind fun t130 => if t130 < g then some ((0 : Int), (3 : Int)) else spec_OutdoorFor.l0 k l g (h : Int) (-4000) 4500) x → Ev (fun k => spec_OutdoorFor.j0 k l g (h : Int) (!decide (0 ≤ (h : Int) ∧ (h : Int) ≤ 23))) x := by
          intro x hx
          refine Ev.succ ?_
          simp only [spec_OutdoorFor.j0]
          exact Ev.neg (by rw [decide_eq_true c2]; decide) hx
        by_cases q : sumv (-4000) h l < g
        · have er : ¬ r < 8501 := by
            intro hr
            rcases r3 with z | z
            · omega
            · have := mono (-4000) (4500 - r) (by omega)
              omega
          rw [if_neg er] at im
          exact ⟨0, 3, Ev.bind h1 (Ev.pos rfl (Ev.pos c0 (sp _ (Ev.bind s0 (Ev.pos q (Ev.now _)))))), Ev.bind h2 (Ev.pos rfl (Ev.pos c0 im))⟩
        · obtain ⟨t, k2, t0, t1, t2, t3⟩ := outLast l hn hb h (by omega) g 8500 (-4000) 4500 (by omega) (by omega) (by omega) (by omega) (by omega) (Or.inl rfl)
          have hr : r < 8501 := by
            by_cases z : r < 8501
            · exact z
            · exfalso
              have e : r = 8501 := by omega
              rcases r2 with y | y
              · omega
              · rw [e, show (4500 : Int) - 8501 + 1 = -4000 by omega] at y
                omega
          have e : t = 4500 - r := by
            rcases r3 with z | z
            · omega
            · by_cases a : t < 4500 - r
              · rcases t3 with y | y
                · omega
                · have := mono (t + 1) (4500 - r) (by omega)
                  omega
              · by_cases b : 4500 - r < t
                · rcases r2 with y | y
                  · omega
                  · have := mono (4500 - r + 1) t (by omega)
                    omega
                · omega
          rw [if_pos hr, ← e] at im
          exact ⟨t, 0, Ev.bind h1 (Ev.pos rfl (Ev.pos c0 (sp _ (Ev.bind s0 (Ev.neg q k2))))), Ev.bind h2 (Ev.pos rfl (Ev.pos c0 im))⟩
      · refine ⟨0, 2, Ev.bind h1 (Ev.pos rfl (Ev.pos c0 ?_)), Ev.bind h2 (Ev.pos rfl (Ev.pos c0 ?_))⟩
        · rw [decide_eq_false c2]
          exact js
        · rw [decide_eq_false c2]
          exact ji
    · exact ⟨0, 2, Ev.bind h1 (Ev.pos rfl (Ev.neg c0 js)), Ev.bind h2 (Ev.pos rfl (Ev.neg c0 ji))⟩
theorem FnExactOutdoorFor : ∀ (x0 : List (S153)) (x1 : Int) (x2 : Int), (wfL wf153) x0 → (wfI .i64) x1 → (wfI .i64) x2 → ∃ k, laws_FnExactOutdoorFor.f k x0 x1 x2 = some true := by
  intro x0 x1 x2 hw0 hw1 hw2
  refine Ev.rounds (r := true) ?_
  simp only [laws_FnExactOutdoorFor.f]
  obtain ⟨t, ht, _, _, hs⟩ := laws_szBuildingS_ev x0 1048576 hw0 (by omega) (by omega)
  refine Ev.bind ht ?_
  by_cases c : t < 0
  · exact Ev.pos c (Ev.now _)
  refine Ev.neg c ?_
  have sm := hs (by omega)
  have sm2 := smL_map cv153 cv153_sm sm
  have hto := laws_toBuildingS_ev x0 sm
  obtain ⟨r, e, h1, h2⟩ := out_both _ sm2 x1 x2
  have q0 := laws_eqBuildingS_refl (x0.map cv153) sm2
  repeat' first | (with_reducible exact Ev.now _) | (with_reducible exact hto) | (with_reducible exact h1) | (with_reducible exact h2) | (with_reducible exact q0) | ((with_reducible refine Ev.pos ?_ ?_); focus (first | with_reducible assumption | with_reducible rfl | omega | rfl | trivial)) | ((with_reducible refine Ev.neg ?_ ?_); focus (first | with_reducible assumption | omega | (simp; done) | (dsimp only; omega))) | (with_reducible refine Ev.bind hto ?_) | (with_reducible refine Ev.bind h1 ?_) | (with_reducible refine Ev.bind h2 ?_) | (with_reducible refine Ev.bind q0 ?_) | (with_reducible refine Ev.bind (Ev.shift hto) ?_) | (with_reducible refine Ev.bind (Ev.shift h1) ?_) | (with_reducible refine Ev.bind (Ev.shift h2) ?_) | (with_reducible refine Ev.bind (Ev.shift q0) ?_) | (refine Ev.succ ?_; simp only [laws_FnExactOutdoorFor.j0]) | (with_reducible refine Ev.sb ?_) | dsimp only
end Go.Proofs.Ytamiipnoeffjkaa.Pure
