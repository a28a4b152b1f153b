/- Ends: the hours when repairs end, by both sides' loops. Conditions: repairs, an order and gangs as stated. -/
import Derived.Test.YtionpndhcijmcaaQFewestGangsx4
import Derived.Test.YtionpndhcijmcaaQFewestGangsx5
import Derived.Test.YtionpndhcijmcaaQFewestGangsx8
import Derived.Test.YtionpndhcijmcaaQFewestGangsx9
import Derived.Test.YtionpndhcijmcaaQFewestGangsxL
import Derived.Test.YtionpndhcijmcaaQFewestGangsxDRepairs
namespace Go.Proofs.Ytionpndhcijmcaa.QFewestGangs
open Go.RowKit Go.Proofs.YtionpndhcijmcaaW.PrintWords Go.Proofs.Ytionpndhcijmcaa.QOpen Go.Proofs.Ytionpndhcijmcaa.QEv
set_option linter.unusedVariables false
set_option linter.unusedSimpArgs false
def firstMin (f : List Int) (g : Nat) : Prop := g < f.length ∧ (∀ j, j < f.length → f.getD g 0 ≤ f.getD j 0) ∧ (∀ j, j < g → f.getD g 0 < f.getD j 0)
theorem minLoop (f : List Int) (hf : f.length ≤ 3) : ∀ (d i : Nat) (m : Int), i + d = f.length → (∃ j, j < i ∧ f.getD j 0 = m) → (∀ j, j < i → m ≤ f.getD j 0) →
    ∃ m', Ev (fun k => slices_Min_int64_int64.l0 k f m (i : Int)) m' ∧ (∃ j, j < f.length ∧ f.getD j 0 = m') ∧ (∀ j, j < f.length → m' ≤ f.getD j 0) := by
  intro d
  induction d with
  | zero =>
    intro i m hi h1 h2
    have e : i = f.length := by omega
    subst e
    refine ⟨m, Ev.succ ?_, h1, h2⟩
    simp only [slices_Min_int64_int64.l0]
    exact Ev.neg (by omega) (Ev.now _)
  | succ d ih =>
    intro i m hi h1 h2
    have e0 : rd f (i : Int) = f.getD i 0 := rfl
    by_cases c : f.getD i 0 < m
    · obtain ⟨m', g1, g2, g3⟩ := ih (i + 1) (f.getD i 0) (by omega) ⟨i, by omega, rfl⟩ (fun j hj => by
        by_cases e : j = i
        · subst e; omega
        · have := h2 j (by omega); omega)
      refine ⟨m', Ev.succ ?_, g2, g3⟩
      simp only [slices_Min_int64_int64.l0, e0, wnat i (by omega), show mn m (f.getD i 0) = f.getD i 0 from if_pos c]
      exact Ev.pos (by omega) (Ev.pos (by omega) g1)
    · obtain ⟨m', g1, g2, g3⟩ := ih (i + 1) m (by omega) (by obtain ⟨j, a, b⟩ := h1; exact ⟨j, by omega, b⟩) (fun j hj => by
        by_cases e : j = i
        · subst e; omega
        · exact h2 j (by omega))
      refine ⟨m', Ev.succ ?_, g2, g3⟩
      simp only [slices_Min_int64_int64.l0, e0, wnat i (by omega), show mn m (f.getD i 0) = m from if_neg c]
      exact Ev.pos (by omega) (Ev.pos (by omega) g1)
theorem min_ev (f : List Int) (hf : f.length ≤ 3) (g : Nat) (hg : firstMin f g) : Ev (fun k => slices_Min_int64_int64.f k f) (f.getD g 0) := by
  obtain ⟨h1, h2, h3⟩ := hg
  obtain ⟨m', g1, ⟨j, g2, g3⟩, g4⟩ := minLoop f hf (f.length - 1) 1 (f.getD 0 0) (by omega) ⟨0, by omega, rfl⟩ (fun j hj => by rw [show j = 0 by omega]; omega)
  have e : m' = f.getD g 0 := by
    have a := g4 g h1
    have b := h2 j g2
    omega
  subst e
  simp only [slices_Min_int64_int64.f]
  exact Ev.neg (by omega) (Ev.pos (by omega) g1)
theorem indexMin_ev (f : List Int) (hf : f.length ≤ 3) (g : Nat) (hg : firstMin f g) : Ev (fun k => slices_Index_int64_int64.f k f (f.getD g 0)) (g : Int) := by
  obtain ⟨h1, h2, h3⟩ := hg
  obtain ⟨t, e, h⟩ := indexLoop f (f.getD g 0) (by omega) f.length 0 (by omega)
  simp only [slices_Index_int64_int64.f]
  rcases h with ⟨_, h⟩ | ⟨j, a, _, b, c, d, _⟩
  · exfalso
    rw [List.drop_zero] at h
    have : f.contains (f.getD g 0) = true := by
      rw [List.contains_iff_mem]
      exact getD_mem f g 0 h1
    rw [this] at h
    cases h
  · have : j = g := by
      by_cases e1 : j < g
      · have := h3 j e1; omega
      · by_cases e2 : g < j
        · exact absurd rfl (d g (by omega) e2)
        · omega
    subst this
    exact Ev.eqn e a
theorem argLoop (l : List S47) (o ends free : List Int) (hf : free.length ≤ 3) (last : Int) (p : Int) : ∀ (d i g : Nat), i + d = free.length → g < i → (∀ j, j < i → free.getD g 0 ≤ free.getD j 0) → (∀ j, j < g → free.getD g 0 < free.getD j 0) →
    ∃ g', firstMin free g' ∧ ∀ r, Ev (fun k => spec_l20Ends.l1 k l o ends free last p (g' : Int) (free.length : Int)) r → Ev (fun k => spec_l20Ends.l1 k l o ends free last p (g : Int) (i : Int)) r := by
  intro d
  induction d with
  | zero =>
    intro i g hi hg h1 h2
    have e : i = free.length := by omega
    subst e
    exact ⟨g, ⟨hg, h1, h2⟩, fun r h => h⟩
  | succ d ih =>
    intro i g hi hg h1 h2
    have e0 : rd free (i : Int) = free.getD i 0 := rfl
    have e1 : rd free (g : Int) = free.getD g 0 := rfl
    by_cases c : free.getD i 0 < free.getD g 0
    · obtain ⟨g', a, b⟩ := ih (i + 1) i (by omega) (by omega) (fun j hj => by
        by_cases e : j = i
        · subst e; omega
        · have := h1 j (by omega); omega) (fun j hj => by have := h1 j (by omega); omega)
      refine ⟨g', a, fun r h => Ev.succ ?_⟩
      simp only [spec_l20Ends.l1, e0, e1, wnat i (by omega)]
      exact Ev.pos (by omega) (Ev.pos (by omega) (Ev.pos (by omega) (Ev.pos (by omega) (Ev.pos c (b r h)))))
    · obtain ⟨g', a, b⟩ := ih (i + 1) g (by omega) (by omega) (fun j hj => by
        by_cases e : j = i
        · subst e; omega
        · exact h1 j (by omega)) h2
      refine ⟨g', a, fun r h => Ev.succ ?_⟩
      simp only [spec_l20Ends.l1, e0, e1, wnat i (by omega)]
      exact Ev.pos (by omega) (Ev.pos (by omega) (Ev.pos (by omega) (Ev.pos (by omega) (Ev.neg c (b r h)))))
theorem max_eq (a b : Int) : spec_l00Max.f a b = some (mx a b) := by
  simp only [spec_l00Max.f, mx]
  split <;> split <;> first | rfl | (congr 1; omega)
theorem mx3 (a b c : Int) : mx (mx a b) c = mx (mx c a) b := by
  simp only [mx]
  repeat' split
  all_goals omega
theorem rd_set (xs : List Int) (i : Int) (v : Int) (h0 : 0 ≤ i) (h : i < (xs.length : Int)) : rd (xs.set i.toNat v) i = v := by
  show (xs.set i.toNat v).getD i.toNat 0 = v
  rw [getD_set _ _ _ _ _ (by omega), if_pos rfl]
theorem endsLoop (l : List S47) (hn : l.length ≤ 8) (o : List Int) (ho : o.length = l.length) (hr : ∀ j, j < o.length → 0 ≤ o.getD j 0 ∧ o.getD j 0 < (l.length : Int)) :
    ∀ (d i : Nat) (ends free : List Int) (last : Int), i + d = o.length → ends.length = l.length → 1 ≤ free.length → free.length ≤ 3 →
    ∃ r, Ev (fun k => spec_l20Ends.l0 k l o ends free last (i : Int)) r ∧ Ev (fun k => impl_gangEnds.l0 k l free ends last o (o.length : Int) (i : Int)) r ∧ r.length = l.length := by
  intro d
  induction d with
  | zero =>
    intro i ends free last hi he hf hf2
    refine ⟨ends, Ev.succ ?_, Ev.succ ?_, he⟩
    · simp only [spec_l20Ends.l0]
      exact Ev.neg (by omega) (Ev.now _)
    · simp only [impl_gangEnds.l0]
      exact Ev.neg (by omega) (Ev.now _)
  | succ d ih =>
    intro i ends free last hi he hf hf2
    obtain ⟨q0, q1⟩ := hr i (by omega)
    have e0 : rd o (i : Int) = o.getD i 0 := rfl
    obtain ⟨g, hg, hstep⟩ := argLoop l o ends free hf2 last (i : Int) (free.length - 1) 1 0 (by omega) (by omega) (fun j hj => by rw [show j = 0 by omega]; omega) (fun j hj => by omega)
    have m1 := min_ev free hf2 g hg
    have m2 := indexMin_ev free hf2 g hg
    have hgl := hg.1
    have e1 : rd free (g : Int) = free.getD g 0 := rfl
    generalize eo : o.getD i 0 = p at *
    generalize es : mx (mx last (free.getD g 0)) (rd_T47 l p).f3 = st at *
    have es2 : mx (mx (free.getD g 0) (rd_T47 l p).f3) last = st := by rw [mx3, es]
    generalize ev : wrap64 (st + (rd_T47 l p).f1) = v at *
    obtain ⟨r, h1, h2, h3⟩ := ih (i + 1) (ends.set p.toNat v) (free.set g v) st (by omega) (by simp; omega) (by simp; omega) (by simp; omega)
    have gn : ((g : Int)).toNat = g := by omega
    have s1 : rd (free.set g v) (g : Int) = v := by have := rd_set free (g : Int) v (by omega) (by omega); rwa [gn] at this
    have s2 : rd (ends.set p.toNat v) p = v := rd_set ends p v (by omega) (by omega)
    refine ⟨r, Ev.succ ?_, Ev.succ ?_, h3⟩
    · simp only [spec_l20Ends.l0]
      refine Ev.pos (by omega) (hstep r (Ev.succ ?_))
      simp only [spec_l20Ends.l1, e0, e1, max_eq, Option.bind_some, es2, ev, gn, s1, wnat i (by omega)]
      exact Ev.neg (by omega) (Ev.pos (by omega) (Ev.pos (by omega) (Ev.pos (by omega) (Ev.pos (by omega) (Ev.pos (by omega) (Ev.pos (by omega) (Ev.pos (by omega) h1)))))))
    · simp only [impl_gangEnds.l0, e0]
      refine Ev.pos (by omega) (Ev.pos (by omega) (Ev.pos (by omega) (Ev.bind m1 (Ev.bind m2 ?_))))
      simp only [e1, Option.bind_some, es, ev, gn, s2, wnat i (by omega)]
      exact Ev.pos (by omega) (Ev.pos (by omega) (Ev.pos (by omega) (Ev.pos (by omega) (Ev.pos (by omega) h2))))
theorem ends_both (l : List S47) (o : List Int) (g : Int) (h : AskOk l o g) : ∃ r, Ev (fun k => spec_l20Ends.f k l o g) r ∧ Ev (fun k => impl_gangEnds.f k l o g) r ∧ r.length = l.length := by
  obtain ⟨hn, _, ho, hr, h1, h3⟩ := h
  obtain ⟨r, a, b, c⟩ := endsLoop l hn o ho hr o.length 0 (List.replicate ((l.length : Int)).toNat 0) (List.replicate g.toNat 0) 0 (by omega) (by simp) (by simp; omega) (by simp; omega)
  refine ⟨r, ?_, ?_, c⟩
  · simp only [spec_l20Ends.f]
    exact Ev.pos (by omega) (Ev.pos (by omega) (Ev.pos (by omega) (Ev.pos (by omega) a)))
  · simp only [impl_gangEnds.f]
    exact Ev.pos (by omega) (Ev.pos (by omega) (Ev.pos (by omega) (Ev.pos (by omega) b)))
end Go.Proofs.Ytionpndhcijmcaa.QFewestGangs
