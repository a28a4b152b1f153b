/- FnExactVersionText: the program's VersionText and the reference's return one and the same for all arguments, and the version stays as it was. Conditions: none beyond the statement's own guard. -/
import Derived.Test.YtidfchlgdmnopaaDoorQVersionTextx3
import Derived.Test.YtidfchlgdmnopaaDoorQVersionTextx6
import Derived.Test.YtidfchlgdmnopaaDoorQVersionTextx8
import Derived.Test.YtidfchlgdmnopaaDoorQVersionTextxL
import Derived.Test.YtidfchlgdmnopaaDoorQVersionTextxDStates
import Derived.Test.YtidfchlgdmnopaaDoorQVersionTextxDMemo
import Derived.Test.YtidfchlgdmnopaaDoorQVersionTextxDDec
namespace Go.Proofs.YtidfchlgdmnopaaDoor.Pure
open Go.RowKit Go.Proofs.YtidfchlgdmnopaaDoor.QVersionText Go.Proofs.YtidfchlgdmnopaaDoorW.PrintWords Go.Proofs.YtidfchlgdmnopaaDoor.QOpen Go.Proofs.YtidfchlgdmnopaaDoor.QEv
set_option linter.unusedVariables false
set_option linter.unusedSimpArgs false
theorem verLoop (l : List S100) (hl : smL sm100 l) (hn : l.length ≤ 24) (hv : ∀ j, j < l.length → -9223372036854775808 ≤ (l.getD j z100).f1 ∧ (l.getD j z100).f1 ≤ 9223372036854775807) (a b : Int) (m : ByteArray) (hm : m.size ≤ 1048576) :
    ∀ (d i : Nat) (x : ByteArray), i + d = l.length → x.size ≤ 1000 + 1100000 * i → ∃ s, Ev (fun k => spec_VersionText.l0 k x (i : Int) a b m l) s ∧ Ev (fun k => impl_VersionText.l0 k x l (l.length : Int) (i : Int) a b m l) s := by
  have z3 : (⟨#[32, 35, 32]⟩ : ByteArray).size = 3 := rfl
  have z32 : (⟨#[32]⟩ : ByteArray).size = 1 := rfl
  have z61 : (⟨#[61]⟩ : ByteArray).size = 1 := rfl
  intro d
  induction d with
  | zero =>
    intro i x hi hx
    by_cases c : m.toList = ([] : List UInt8)
    · refine ⟨x, Ev.succ ?_, Ev.succ ?_⟩
      · simp only [spec_VersionText.l0]
        exact Ev.neg (by omega) (Ev.pos c (Ev.now _))
      · simp only [impl_VersionText.l0]
        exact Ev.neg (by omega) (Ev.pos c (Ev.now _))
    · refine ⟨x ++ ((⟨#[32, 35, 32]⟩ : ByteArray) ++ m), Ev.succ ?_, Ev.succ ?_⟩
      · simp only [spec_VersionText.l0]
        exact Ev.neg (by omega) (Ev.neg c (Ev.pos (by omega) (Ev.pos (by rw [ByteArray.size_append]; omega) (Ev.now _))))
      · simp only [impl_VersionText.l0]
        exact Ev.neg (by omega) (Ev.neg c (Ev.pos (by omega) (Ev.pos (by rw [ByteArray.size_append]; omega) (Ev.now _))))
  | succ d ih =>
    intro i x hi hx
    obtain ⟨y, hy⟩ : ∃ y, y = l.getD i z100 := ⟨_, rfl⟩
    obtain ⟨v0, v1⟩ := hv i (by omega)
    have ys : y.f0.size ≤ 1048576 := by
      have h_ : sm100 (l.getD i z100) := smL_get hl (j := i) _ (by omega)
      rw [← hy] at h_
      exact h_.1
    rw [← hy] at v0 v1
    have er : rd_T100 l (i : Int) = y := hy.symm
    have hd := dec_spec y.f1 v0 v1
    have hi2 := dec_impl y.f1 v0 v1
    have hs := decOf_size y.f1 v0 v1
    have e1 : ((⟨#[32]⟩ : ByteArray) ++ y.f0).size = 1 + y.f0.size := by rw [ByteArray.size_append, z32]
    have e2 : (((⟨#[32]⟩ : ByteArray) ++ y.f0) ++ (⟨#[61]⟩ : ByteArray)).size = 2 + y.f0.size := by rw [ByteArray.size_append, e1, z61]; omega
    have e3 : ((((⟨#[32]⟩ : ByteArray) ++ y.f0) ++ (⟨#[61]⟩ : ByteArray)) ++ decOf y.f1).size ≤ 24 + y.f0.size := by rw [ByteArray.size_append, e2]; omega
    obtain ⟨s, h1, h2⟩ := ih (i + 1) (x ++ ((((⟨#[32]⟩ : ByteArray) ++ y.f0) ++ (⟨#[61]⟩ : ByteArray)) ++ decOf y.f1)) (by omega) (by rw [ByteArray.size_append]; omega)
    refine ⟨s, Ev.succ ?_, Ev.succ ?_⟩
    · simp only [spec_VersionText.l0, er, wnat i (by omega)]
      exact Ev.pos (by omega) (Ev.pos (by omega) (Ev.pos (by omega) (Ev.pos (by omega) (Ev.bind hd (Ev.pos (by omega) (Ev.pos (by omega) h1))))))
    · simp only [impl_VersionText.l0, er, hi2, Option.bind_some, wnat i (by omega)]
      exact Ev.pos (by omega) (Ev.pos (by omega) (Ev.pos (by omega) (Ev.pos (by omega) (Ev.pos (by omega) (Ev.pos (by omega) (Ev.pos (by omega) h2))))))
theorem version_text (x : S36) (hx : sm36 x) (hv : ∀ j, j < x.f3.length → -9223372036854775808 ≤ (x.f3.getD j z100).f1 ∧ (x.f3.getD j z100).f1 ≤ 9223372036854775807) :
    ∃ s, Ev (fun k => spec_VersionText.f k x.f0 x.f1 x.f2 x.f3) s ∧ Ev (fun k => impl_VersionText.f k x.f0 x.f1 x.f2 x.f3) s := by
  obtain ⟨s0, s1, s2, s3⟩ := hx
  have hm : x.f2.size ≤ 1048576 := s2
  obtain ⟨v, m1, m2, _⟩ := memo_both x.f2 (by omega)
  obtain ⟨u, g1, g2, g3⟩ := state_both x.f3 s3
  have sT : Ev (fun k => spec_VersionText.j0 k true x.f0 x.f1 x.f2 x.f3) (⟨#[]⟩ : ByteArray) := Ev.succ (by simp only [spec_VersionText.j0]; exact Ev.pos (by trivial) (Ev.now _))
  have iT : Ev (fun k => impl_VersionText.j0 k true x.f0 x.f1 x.f2 x.f3) (⟨#[]⟩ : ByteArray) := Ev.succ (by simp only [impl_VersionText.j0]; exact Ev.pos (by trivial) (Ev.now _))
  simp only [spec_VersionText.f, impl_VersionText.f, spec_in_eq, impl_within_eq, Option.bind_some]
  by_cases c0 : 1 ≤ x.f0 ∧ x.f0 ≤ 32
  · have w : wrap64 (x.f0 - 1) = x.f0 - 1 := wid (by omega) (by omega)
    rw [w]
    by_cases c1 : 0 ≤ x.f1 ∧ x.f1 ≤ x.f0 - 1
    · cases v with
      | false => exact ⟨_, Ev.pos (decide_eq_true c0) (Ev.pos (decide_eq_true c1) (Ev.bind m1 (Ev.neg (by decide) sT))), Ev.pos (decide_eq_true c0) (Ev.pos (decide_eq_true c1) (Ev.bind m2 (Ev.neg (by decide) iT)))⟩
      | true =>
        cases u with
        | false => exact ⟨_, Ev.pos (decide_eq_true c0) (Ev.pos (decide_eq_true c1) (Ev.bind m1 (Ev.pos rfl (Ev.bind g1 sT)))), Ev.pos (decide_eq_true c0) (Ev.pos (decide_eq_true c1) (Ev.bind m2 (Ev.pos rfl (Ev.bind g2 iT))))⟩
        | true =>
          have d0 := dec_spec x.f0 (by omega) (by omega)
          have d1 := dec_spec x.f1 (by omega) (by omega)
          have n0 := decOf_size x.f0 (by omega) (by omega)
          have n1 := decOf_size x.f1 (by omega) (by omega)
          have z60 : (⟨#[60]⟩ : ByteArray).size = 1 := rfl
          have b1 : (decOf x.f0 ++ (⟨#[60]⟩ : ByteArray)).size = (decOf x.f0).size + 1 := by rw [ByteArray.size_append, z60]
          obtain ⟨s, k1, k2⟩ := verLoop x.f3 s3 (g3 rfl) hv x.f0 x.f1 x.f2 hm x.f3.length 0 ((decOf x.f0 ++ (⟨#[60]⟩ : ByteArray)) ++ decOf x.f1) (by omega) (by rw [ByteArray.size_append]; omega)
          refine ⟨s, Ev.pos (decide_eq_true c0) (Ev.pos (decide_eq_true c1) (Ev.bind m1 (Ev.pos rfl (Ev.bind g1 (Ev.succ ?_))))), Ev.pos (decide_eq_true c0) (Ev.pos (decide_eq_true c1) (Ev.bind m2 (Ev.pos rfl (Ev.bind g2 (Ev.succ ?_)))))⟩
          · simp only [spec_VersionText.j0, Bool.not_true]
            exact Ev.neg (by simp) (Ev.bind d0 (Ev.pos (by omega) (Ev.bind d1 (Ev.pos (by omega) k1))))
          · simp only [impl_VersionText.j0, Bool.not_true, dec_impl x.f0 (by omega) (by omega), dec_impl x.f1 (by omega) (by omega), Option.bind_some]
            exact Ev.neg (by simp) (Ev.pos (by omega) (Ev.pos (by omega) k2))
    · exact ⟨_, Ev.pos (decide_eq_true c0) (Ev.neg (by simpa using c1) sT), Ev.pos (decide_eq_true c0) (Ev.neg (by simpa using c1) iT)⟩
  · exact ⟨_, Ev.neg (by simpa using c0) sT, Ev.neg (by simpa using c0) iT⟩
theorem FnExactVersionText : ∀ (x0 : S31), wf31 x0 → ∃ k, laws_FnExactVersionText.f k x0.f0 x0.f1 x0.f2 x0.f3 = some true := by
  intro x0 hw0
  refine Ev.rounds (r := true) ?_
  simp only [laws_FnExactVersionText.f]
  obtain ⟨t, ht, _, _, hs⟩ := laws_szVersion_ev x0 1048576 hw0 (by omega) (by omega)
  refine Ev.bind ht ?_
  by_cases c : t < 0
  · exact Ev.pos c (Ev.now _)
  refine Ev.neg c ?_
  have sm := hs (by omega)
  have hto := laws_toVersion_ev x0 sm
  have sm2 := cv31_sm x0 sm
  obtain ⟨s, h1, h2⟩ := version_text (cv31 x0) sm2 (fun j hj => by
    have hj' : j < x0.f3.length := by
      have h_ : ((cv31 x0).f3).length = x0.f3.length := List.length_map _
      omega
    have e : ((cv31 x0).f3).getD j z100 = cv133 (x0.f3.getD j z133) := getD_map cv133 x0.f3 j _ _ hj'
    have hw : wf133 (x0.f3.getD j z133) := wfL_get hw0.2.2.2 _ hj'
    rw [e]
    exact wfI_i64 (show wfI .i64 (x0.f3.getD j z133).f1 from hw.2))
  have q0 := laws_eqVersion_refl (cv31 x0) sm2
  exact Ev.bind hto (Ev.bind h1 (Ev.bind hto (Ev.bind h2 (Ev.pos rfl (Ev.bind hto (Ev.bind q0 (Ev.pos rfl (Ev.now _))))))))
end Go.Proofs.YtidfchlgdmnopaaDoor.Pure
