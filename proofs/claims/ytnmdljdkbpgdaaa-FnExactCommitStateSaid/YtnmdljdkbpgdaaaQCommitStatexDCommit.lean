/- Commit: a history with a further version, the same on both sides. Conditions: lists of a length that a program can have. -/
import Derived.Test.YtnmdljdkbpgdaaaQCommitStatex4
import Derived.Test.YtnmdljdkbpgdaaaQCommitStatex5
import Derived.Test.YtnmdljdkbpgdaaaQCommitStatex8
import Derived.Test.YtnmdljdkbpgdaaaQCommitStatexL
namespace Go.Proofs.Ytnmdljdkbpgdaaa.QCommitState
open Go.RowKit Go.Proofs.YtnmdljdkbpgdaaaW.PrintWords Go.Proofs.Ytnmdljdkbpgdaaa.QOpen Go.Proofs.Ytnmdljdkbpgdaaa.QEv
set_option linter.unusedVariables false
set_option linter.unusedSimpArgs false
theorem take_snoc {α : Type} (l : List α) (i : Nat) (d : α) (h : i < l.length) : l.take i ++ [l.getD i d] = l.take (i + 1) := by
  rw [getD_at _ _ _ h, List.take_succ_eq_append_getElem h]
theorem clone_set (l : List S157) (hl : l.length ≤ 1048576) : slices_Clone_Setting.f l = some l := by
  simp only [slices_Clone_Setting.f, Option.bind_some, List.nil_append, List.length_nil]
  rw [if_pos (by omega)]
theorem clone_ver (l : List S119) (hl : l.length ≤ 1048576) : slices_Clone_Version.f l = some l := by
  simp only [slices_Clone_Version.f, Option.bind_some, List.nil_append, List.length_nil]
  rw [if_pos (by omega)]
theorem own_l0 (l : List S119) (hl : smL sm119 l) : ∀ d i : Nat, i + d = l.length → Ev (fun k => spec_l27Own.l0 k l (l.take i) (i : Int)) l := by
  have hn := hl.1
  intro d
  induction d with
  | zero =>
    intro i hi
    refine Ev.succ ?_
    simp only [spec_l27Own.l0]
    refine Ev.neg (by omega) (Ev.eqn (Ev.now _) ?_)
    exact List.take_of_length_le (by omega)
  | succ d ih =>
    intro i hi
    have h3 : (rd_T119 l (i : Int)).f3.length ≤ 1048576 := (smL_get hl (j := i) z119 (by omega)).2.2.2.1
    have ht : (l.take i).length = i := by rw [List.length_take]; omega
    have st := take_snoc l i z119 (by omega)
    refine Ev.succ ?_
    simp only [spec_l27Own.l0, Option.bind_some, List.nil_append, List.length_nil, wnat i (by omega)]
    refine Ev.pos (by omega) (Ev.pos (by omega) (Ev.pos (by omega) (Ev.pos (by omega) ?_)))
    have g := ih (i + 1) (by omega)
    rw [← st] at g
    exact g
theorem with_l0 (l : List S119) (hl : smL sm119 l) : ∀ d i : Nat, i + d = l.length → Ev (fun k => impl_withVersion.l0 k (l.take i) l (l.length : Int) (i : Int)) (l, 0) := by
  have hn := hl.1
  intro d
  induction d with
  | zero =>
    intro i hi
    refine Ev.succ ?_
    simp only [impl_withVersion.l0]
    refine Ev.neg (by omega) (Ev.eqn (Ev.now _) ?_)
    rw [List.take_of_length_le (by omega)]
  | succ d ih =>
    intro i hi
    have h3 : (rd_T119 l (i : Int)).f3.length ≤ 1048576 := (smL_get hl (j := i) z119 (by omega)).2.2.2.1
    have ht : (l.take i).length = i := by rw [List.length_take]; omega
    have st := take_snoc l i z119 (by omega)
    refine Ev.succ ?_
    simp only [impl_withVersion.l0, clone_set _ h3, Option.bind_some, wnat i (by omega)]
    refine Ev.pos (by omega) (Ev.pos (by omega) (Ev.pos (by omega) (Ev.pos (by omega) ?_)))
    have g := ih (i + 1) (by omega)
    rw [← st] at g
    exact g
theorem add_both (l : List S119) (hl : smL sm119 l) (hn : l.length ≤ 32) (p : Int) (m : ByteArray) (hm : m.size ≤ 1048576) (st : List S157) (hs : smL sm157 st) :
    ∃ (r : List S119) (e : Int), Ev (fun k => spec_l27Add.f k l p m st) (r, e) ∧ Ev (fun k => impl_withVersion.f k l p m st) (r, e) ∧ smL sm119 r := by
  have hs1 := hs.1
  simp only [spec_l27Add.f, impl_withVersion.f]
  by_cases c : (l.length : Int) = 32
  · exact ⟨[], 5, Ev.pos c (Ev.now _), Ev.pos c (Ev.now _), by simp, fun x hx => by cases hx⟩
  · have ew : wrap64 ((l.length : Int) + 1) = (l.length : Int) + 1 := wid (by omega) (by omega)
    obtain ⟨v, ev⟩ : ∃ v : S119, v = ⟨(l.length : Int) + 1, p, m, st⟩ := ⟨_, rfl⟩
    have hv : smL sm119 (l ++ [v]) := by
      refine ⟨by simp; omega, fun x hx => ?_⟩
      rcases List.mem_append.1 hx with z | z
      · exact hl.2 x z
      · rw [List.mem_singleton.1 z, ev]
        exact ⟨trivial, trivial, hm, hs⟩
    have o1 := own_l0 l hl l.length 0 (by omega)
    have o2 := with_l0 (l ++ [v]) hv (l ++ [v]).length 0 (by omega)
    have o1' : Ev (fun k => spec_l27Own.f k l) l := by
      simp only [spec_l27Own.f]
      exact o1
    have el : (l ++ [v]).length = l.length + 1 := by simp
    refine ⟨l ++ [v], 0, Ev.neg c ?_, Ev.neg c ?_, hv⟩
    · simp only [Option.bind_some, List.nil_append, List.length_nil, ew, ← ev]
      exact Ev.pos (by omega) (Ev.bind o1' (Ev.pos (by simp; omega) (Ev.now _)))
    · simp only [clone_ver l (by omega), Option.bind_some, ew, ← ev]
      exact Ev.pos (by omega) o2
end Go.Proofs.Ytnmdljdkbpgdaaa.QCommitState
