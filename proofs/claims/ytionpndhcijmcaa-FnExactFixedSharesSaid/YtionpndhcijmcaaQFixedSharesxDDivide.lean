/- Divide: money divided by weights, by both sides' loops. Conditions: at most 12 weights from 0 to 1000000, money from 0 to 1000000000. -/
import Derived.Test.YtionpndhcijmcaaQFixedSharesx2
import Derived.Test.YtionpndhcijmcaaQFixedSharesx5
import Derived.Test.YtionpndhcijmcaaQFixedSharesxL
import Derived.Test.YtionpndhcijmcaaQFixedSharesxDTenants
import Derived.Test.YtionpndhcijmcaaQFixedSharesxDDiv
namespace Go.Proofs.Ytionpndhcijmcaa.QFixedShares
open Go.RowKit Go.Proofs.YtionpndhcijmcaaW.PrintWords Go.Proofs.Ytionpndhcijmcaa.QOpen Go.Proofs.Ytionpndhcijmcaa.QEv
set_option linter.unusedVariables false
set_option linter.unusedSimpArgs false
def WOk (w : List Int) : Prop := w.length ≤ 12 ∧ ∀ j, j < w.length → 0 ≤ w.getD j 0 ∧ w.getD j 0 ≤ 1000000
theorem sumLoop (m : Int) (w : List Int) (hw : WOk w) : ∀ (d i : Nat) (acc : Int), i + d = w.length → 0 ≤ acc → acc ≤ (i : Int) * 1000000 →
    ∃ s, acc ≤ s ∧ s ≤ 12000000 ∧ ((∀ j, j < w.length → 1 ≤ w.getD j 0) → acc + d ≤ s) ∧ (∀ r, Ev (fun k => spec_l22Divide.l0 k m w s (w.length : Int)) r → Ev (fun k => spec_l22Divide.l0 k m w acc (i : Int)) r) ∧ Ev (fun k => impl_sumOf.l0 k acc w (w.length : Int) (i : Int)) s := by
  obtain ⟨hn, hv⟩ := hw
  intro d
  induction d with
  | zero =>
    intro i acc hi h0 h1
    have e : i = w.length := by omega
    subst e
    refine ⟨acc, by omega, by omega, fun _ => by omega, fun r h => h, Ev.succ ?_⟩
    simp only [impl_sumOf.l0]
    exact Ev.neg (by omega) (Ev.now _)
  | succ d ih =>
    intro i acc hi h0 h1
    have hj := hv i (by omega)
    have e0 : rd w (i : Int) = w.getD i 0 := rfl
    have wa : wrap64 (acc + w.getD i 0) = acc + w.getD i 0 := wid (by omega) (by omega)
    obtain ⟨s, a1, a2, a3, a4, a5⟩ := ih (i + 1) (acc + w.getD i 0) (by omega) (by omega) (by omega)
    refine ⟨s, by omega, a2, fun hp => by have := hp i (by omega); have := a3 hp; omega, fun r h => Ev.succ ?_, Ev.succ ?_⟩
    · simp only [spec_l22Divide.l0, e0, wa, wnat i (by omega)]
      exact Ev.pos (by omega) (Ev.pos (by omega) (a4 r h))
    · simp only [impl_sumOf.l0, e0, wa, wnat i (by omega)]
      exact Ev.pos (by omega) (Ev.pos (by omega) (Ev.pos (by omega) a5))
theorem prod_le (m a : Int) (h0 : 0 ≤ m) (h1 : m ≤ 1000000000) (a0 : 0 ≤ a) (a1 : a ≤ 12000000) : 0 ≤ m * a ∧ m * a ≤ 12000000000000000 :=
  ⟨Int.mul_nonneg h0 a0, Int.le_trans (Int.mul_le_mul h1 a1 a0 (by omega)) (by omega)⟩
theorem divLoop (m : Int) (h0 : 0 ≤ m) (h1 : m ≤ 1000000000) (w : List Int) (hw : WOk w) (s : Int) (hs : 0 < s) (hs1 : s ≤ 12000000) : ∀ (d i : Nat) (acc last : Int) (out : List Int), i + d = w.length → 0 ≤ acc → acc ≤ (i : Int) * 1000000 → 0 ≤ last → last ≤ 1152921504606846976 → out.length = i →
    ∃ r : List Int, Ev (fun k => spec_l22Divide.l1 k m w s out acc last (i : Int)) (r, true) ∧ Ev (fun k => impl_divide.l0 k m s acc last out w (w.length : Int) (i : Int)) (r, true) ∧ r.length = w.length := by
  obtain ⟨hn, hv⟩ := hw
  intro d
  induction d with
  | zero =>
    intro i acc last out hi a0 a1 l0 l1 ho
    refine ⟨out, Ev.succ ?_, Ev.succ ?_, by omega⟩
    · simp only [spec_l22Divide.l1]
      exact Ev.neg (by omega) (Ev.now _)
    · simp only [impl_divide.l0]
      exact Ev.neg (by omega) (Ev.now _)
  | succ d ih =>
    intro i acc last out hi a0 a1 l0 l1 ho
    have hj := hv i (by omega)
    have e0 : rd w (i : Int) = w.getD i 0 := rfl
    have wa : wrap64 (acc + w.getD i 0) = acc + w.getD i 0 := wid (by omega) (by omega)
    obtain ⟨p0, p1⟩ := prod_le m (acc + w.getD i 0) h0 h1 (by omega) (by omega)
    have wp : wrap64 (m * (acc + w.getD i 0)) = m * (acc + w.getD i 0) := wid (by omega) (by omega)
    have wp' : wrap64 ((acc + w.getD i 0) * m) = m * (acc + w.getD i 0) := by rw [Int.mul_comm]; exact wp
    generalize hP : m * (acc + w.getD i 0) = P at *
    have q0 : 0 ≤ (2 * P + s) / (2 * s) := Int.ediv_nonneg (by omega) (by omega)
    have q1 : (2 * P + s) / (2 * s) ≤ 2 * P + s := Int.ediv_le_self _ (by omega)
    have d1 := l01Div_eq P s p0 (by omega) hs (by omega)
    have d2 := divRound_eq P s p0 (by omega) hs (by omega)
    generalize (2 * P + s) / (2 * s) = v at *
    have wv : wrap64 (v - last) = v - last := wid (by omega) (by omega)
    have wl : wrap64 (last + (v - last)) = v := by rw [wid (by omega) (by omega)]; omega
    obtain ⟨r, g1, g2, g3⟩ := ih (i + 1) (acc + w.getD i 0) v (out ++ [v - last]) (by omega) (by omega) (by omega) q0 (by omega) (by simp; omega)
    refine ⟨r, Ev.succ ?_, Ev.succ ?_, g3⟩
    · simp only [spec_l22Divide.l1, e0, wa, hP, wp, d1, Option.bind_some, wv, wnat i (by omega)]
      exact Ev.pos (by omega) (Ev.pos (by omega) (Ev.pos (by omega) g1))
    · simp only [impl_divide.l0, e0, wa, wp', d2, Option.bind_some, wv, wl, wnat i (by omega)]
      exact Ev.pos (by omega) (Ev.pos (by omega) (Ev.pos (by omega) (Ev.pos (by omega) g2)))
theorem divide_both (m : Int) (h0 : 0 ≤ m) (h1 : m ≤ 1000000000) (w : List Int) (hw : WOk w) : ∃ (r : List Int) (b : Bool), Ev (fun k => spec_l22Divide.f k m w) (r, b) ∧ Ev (fun k => impl_divide.f k m w) (r, b) ∧ (b = true → r.length = w.length) ∧ (w = [] → b = false) ∧ ((∀ j, j < w.length → 1 ≤ w.getD j 0) → w ≠ [] → b = true) := by
  obtain ⟨s, a1, a2, a3, a4, a5⟩ := sumLoop m w hw w.length 0 0 (by omega) (by omega) (by omega)
  have hn := hw.1
  have a5' : Ev (fun k => impl_sumOf.f k w) s := by
    simp only [impl_sumOf.f]
    exact a5
  by_cases e : s = 0
  · refine ⟨[], false, ?_, ?_, (fun h => by cases h), fun _ => rfl, fun hp hne => ?_⟩
    · simp only [spec_l22Divide.f]
      refine a4 _ (Ev.succ ?_)
      simp only [spec_l22Divide.l0]
      exact Ev.neg (by omega) (Ev.pos e (Ev.now _))
    · simp only [impl_divide.f]
      exact Ev.bind a5' (Ev.pos e (Ev.now _))
    · have := a3 hp
      have := List.length_pos_iff.2 hne
      omega
  · obtain ⟨r, g1, g2, g3⟩ := divLoop m h0 h1 w hw s (by omega) a2 w.length 0 0 0 [] (by omega) (by omega) (by omega) (by omega) (by omega) rfl
    refine ⟨r, true, ?_, ?_, fun _ => g3, fun hne => ?_, fun _ _ => rfl⟩
    · simp only [spec_l22Divide.f]
      refine a4 _ (Ev.succ ?_)
      simp only [spec_l22Divide.l0]
      exact Ev.neg (by omega) (Ev.neg e g1)
    · simp only [impl_divide.f]
      exact Ev.bind a5' (Ev.neg e g2)
    · exfalso
      subst hne
      have z : Ev (fun k => impl_sumOf.f k []) 0 := by
        simp only [impl_sumOf.f]
        refine Ev.succ ?_
        simp only [impl_sumOf.l0]
        exact Ev.neg (by simp) (Ev.now _)
      exact e (Ev.uniq a5' z)
end Go.Proofs.Ytionpndhcijmcaa.QFixedShares
