/- FnExactAddDuty: the program's AddDuty and the reference's return one and the same for all arguments, and the duties stay as they were. Conditions: none beyond the statement's own guard. -/
import Derived.Test.YtjccjmjnlblhaaaQAddDutyx2
import Derived.Test.YtjccjmjnlblhaaaQAddDutyx3
import Derived.Test.YtjccjmjnlblhaaaQAddDutyx5
import Derived.Test.YtjccjmjnlblhaaaQAddDutyx7
import Derived.Test.YtjccjmjnlblhaaaQAddDutyx8
import Derived.Test.YtjccjmjnlblhaaaQAddDutyx9
import Derived.Test.YtjccjmjnlblhaaaQAddDutyx12
import Derived.Test.YtjccjmjnlblhaaaQAddDutyxL
import Derived.Test.YtjccjmjnlblhaaaQAddDutyxDCut
import Derived.Test.YtjccjmjnlblhaaaQAddDutyxDLess
import Derived.Test.YtjccjmjnlblhaaaQAddDutyxDDutiesS
namespace Go.Proofs.Ytjccjmjnlblhaaa.Pure
open Go.RowKit Go.Proofs.Ytjccjmjnlblhaaa.QAddDuty Go.Proofs.YtjccjmjnlblhaaaW.PrintWords Go.Proofs.Ytjccjmjnlblhaaa.QOpen Go.Proofs.Ytjccjmjnlblhaaa.QEv
set_option linter.unusedVariables false
set_option linter.unusedSimpArgs false
theorem dlt_trans {p q r : S44} (h1 : dlt p q) (h2 : dlt q r) : dlt p r := by
  rcases h1 with h1 | ⟨e1, h1⟩
  · rcases h2 with h2 | ⟨e2, h2⟩
    · exact Or.inl (less_trans _ _ _ h1 h2)
    · exact Or.inl (by rw [← e2]; exact h1)
  · rcases h2 with h2 | ⟨e2, h2⟩
    · exact Or.inl (by rw [e1]; exact h2)
    · exact Or.inr ⟨e1.trans e2, by omega⟩
def du (l : List S44) (j : Nat) : S44 := l.getD j z44
theorem du_rd (l : List S44) (j : Nat) : rd_T44 l (j : Int) = du l j := rfl
theorem du_less (l : List S44) (h : ∀ j, j < l.length → DutyAt l j) : ∀ d i : Nat, i + d + 1 < l.length → dlt (du l i) (du l (i + d + 1)) := by
  intro d
  induction d with
  | zero =>
    intro i hi
    exact (h (i + 0 + 1) hi).2 (by omega)
  | succ d ih =>
    intro i hi
    exact dlt_trans (ih i (by omega)) ((h (i + (d + 1) + 1) hi).2 (by omega))
def Bef (l : List S44) (x : S44) (j : Nat) : Prop := dlt (du l j) x
theorem bef_cut (l : List S44) (h : ∀ j, j < l.length → DutyAt l j) (x : S44) : ∃ c, IsCut (Bef l x) l.length c :=
  cut_ex _ _ fun i j hi hj hp => by
    unfold Bef at *
    by_cases e : i = j
    · subst e; exact hp
    · have a := du_less l h (j - i - 1) i (by omega)
      rw [show i + (j - i - 1) + 1 = j by omega] at a
      exact dlt_trans a hp
def cmpv (x y : S44) : Int := if Op.bytesLess x.f0.toList y.f0.toList = true then -1 else if Op.bytesLess y.f0.toList x.f0.toList = true then 1 else if x.f1 < y.f1 then -1 else if x.f1 > y.f1 then 1 else 0
theorem cmpv_neg (x y : S44) : cmpv x y < 0 ↔ dlt x y := by
  unfold cmpv dlt
  by_cases a : Op.bytesLess x.f0.toList y.f0.toList = true
  · rw [if_pos a]
    exact ⟨fun _ => Or.inl a, fun _ => by decide⟩
  · rw [if_neg a]
    by_cases b : Op.bytesLess y.f0.toList x.f0.toList = true
    · rw [if_pos b]
      refine ⟨fun h => absurd h (by decide), fun h => ?_⟩
      rcases h with h | ⟨h, _⟩
      · exact absurd h a
      · exact absurd h.symm (less_ne b)
    · rw [if_neg b]
      have e := less_eq (by simpa using a) (by simpa using b)
      by_cases c : x.f1 < y.f1
      · rw [if_pos c]
        exact ⟨fun _ => Or.inr ⟨e, c⟩, fun _ => by decide⟩
      · rw [if_neg c]
        refine ⟨fun h => ?_, fun h => ?_⟩
        · split at h <;> omega
        · rcases h with h | ⟨_, h⟩
          · exact absurd h a
          · exact absurd h c
theorem compv (x y : S44) : Ev (fun k => impl_compareDuties.f k x.f0 x.f1 x.f2 x.f3 y.f0 y.f1 y.f2 y.f3) (cmpv x y) := compare_ev x y
theorem binLoop (l : List S44) (hn : l.length ≤ 1000) (x : S44) (c : Nat) (hc : IsCut (Bef l x) l.length c) : ∀ d lo hi : Nat, hi - lo ≤ d → lo ≤ c → c ≤ hi → hi ≤ l.length →
    ∃ bb : Bool, Ev (fun k => slices_BinarySearchFunc_Duty.l0 k l (l.length : Int) (lo : Int) (hi : Int) x.f0 x.f1 x.f2 x.f3) ((c : Int), bb) := by
  have stop : ∀ lo hi : Nat, ¬ lo < hi → lo ≤ c → c ≤ hi → ∃ bb : Bool, Ev (fun k => slices_BinarySearchFunc_Duty.l0 k l (l.length : Int) (lo : Int) (hi : Int) x.f0 x.f1 x.f2 x.f3) ((c : Int), bb) := by
    intro lo hi h0 h1 h2
    have e1 : lo = c := by omega
    have e2 : hi = c := by omega
    subst e1
    rw [e2]
    by_cases h : lo < l.length
    · refine ⟨(cmpv (du l lo) x == 0), Ev.succ ?_⟩
      simp only [slices_BinarySearchFunc_Duty.l0, du_rd]
      exact Ev.neg (by omega) (Ev.pos (by omega) (Ev.pos (by omega) (Ev.pos (by omega) (Ev.bind (compv _ _) (Ev.now _)))))
    · refine ⟨false, Ev.succ ?_⟩
      simp only [slices_BinarySearchFunc_Duty.l0]
      exact Ev.neg (by omega) (Ev.neg (by omega) (Ev.now _))
  intro d
  induction d with
  | zero =>
    intro lo hi h0 h1 h2 h3
    exact stop lo hi (by omega) h1 h2
  | succ d ih =>
    intro lo hi h0 h1 h2 h3
    by_cases h : lo < hi
    · have em := mid_eq lo hi (by omega)
      by_cases hp : dlt (du l ((lo + hi) / 2)) x
      · have hm : (lo + hi) / 2 < c := by
          by_cases g : (lo + hi) / 2 < c
          · exact g
          · exact absurd hp (hc.2.2 _ (by omega) (by omega))
        obtain ⟨bb, hb⟩ := ih ((lo + hi) / 2 + 1) hi (by omega) (by omega) h2 h3
        refine ⟨bb, Ev.succ ?_⟩
        simp only [slices_BinarySearchFunc_Duty.l0, em, du_rd, wnat ((lo + hi) / 2) (by omega)]
        exact Ev.pos (by omega) (Ev.pos (by omega) (Ev.pos (by omega) (Ev.bind (compv _ _) (Ev.pos ((cmpv_neg _ _).2 hp) hb))))
      · have hm : c ≤ (lo + hi) / 2 := by
          by_cases g : c ≤ (lo + hi) / 2
          · exact g
          · exact absurd (hc.2.1 _ (by omega)) hp
        obtain ⟨bb, hb⟩ := ih lo ((lo + hi) / 2) (by omega) h1 hm (by omega)
        refine ⟨bb, Ev.succ ?_⟩
        simp only [slices_BinarySearchFunc_Duty.l0, em, du_rd]
        exact Ev.pos (by omega) (Ev.pos (by omega) (Ev.pos (by omega) (Ev.bind (compv _ _) (Ev.neg (fun z => hp ((cmpv_neg _ _).1 z)) hb))))
    · exact stop lo hi h h1 h2
theorem scan (l : List S44) (hn : l.length ≤ 1000) (x : S44) (c : Nat) (hc : IsCut (Bef l x) l.length c) (out : List S44) (hout : out = l.take c ++ [x] ++ l.drop c) (r : List S44 × Int)
    (hr : Ev (fun k => (spec_l26Ok.f k out).bind fun t => if t = true then some (out, 0) else some (([] : List S44), 6)) r) : ∀ d i : Nat, i + d = c → Ev (fun k => spec_AddDuty.l0 k l (i : Int) x.f0 x.f1 x.f2 x.f3) r := by
  have hcn := hc.1
  have ex : (⟨x.f0, x.f1, x.f2, x.f3⟩ : S44) = x := rfl
  intro d
  induction d with
  | zero =>
    intro i hi
    have e : i = c := by omega
    subst e
    refine Ev.succ ?_
    simp only [spec_AddDuty.l0, du_rd, ex, Option.bind_some, Int.toNat_natCast, List.nil_append, List.length_nil]
    by_cases g : i < l.length
    · have np := hc.2.2 i (Nat.le_refl _) g
      unfold Bef dlt at np
      have n1 : ¬ Op.bytesLess (du l i).f0.toList x.f0.toList = true := fun z => np (Or.inl z)
      by_cases e : (du l i).f0.toList = x.f0.toList
      · refine Ev.pos (by omega) (Ev.pos (by omega) (Ev.neg n1 (Ev.pos e (Ev.neg (fun z => np (Or.inr ⟨e, z⟩)) (Ev.pos (by omega) (Ev.pos ?_ (Ev.pos ?_ (Ev.pos ?_ ?_))))))))
        all_goals first | (rw [← hout]; exact hr) | (simp only [List.length_append, List.length_take, List.length_drop, List.length_cons, List.length_nil]; omega)
      · refine Ev.pos (by omega) (Ev.pos (by omega) (Ev.neg n1 (Ev.neg e (Ev.pos (by omega) (Ev.pos ?_ (Ev.pos ?_ (Ev.pos ?_ ?_)))))))
        all_goals first | (rw [← hout]; exact hr) | (simp only [List.length_append, List.length_take, List.length_drop, List.length_cons, List.length_nil]; omega)
    · refine Ev.neg (by omega) (Ev.pos (by omega) (Ev.pos (by omega) (Ev.pos ?_ (Ev.pos ?_ (Ev.pos ?_ ?_)))))
      all_goals first | (rw [← hout]; exact hr) | (simp only [List.length_append, List.length_take, List.length_drop, List.length_cons, List.length_nil]; omega)
  | succ d ih =>
    intro i hi
    have hp := hc.2.1 i (by omega)
    have g := ih (i + 1) (by omega)
    unfold Bef dlt at hp
    refine Ev.succ ?_
    simp only [spec_AddDuty.l0, du_rd, wnat i (by omega)]
    rcases hp with hp | ⟨hp, hq⟩
    · exact Ev.pos (by omega) (Ev.pos (by omega) (Ev.pos hp g))
    · refine Ev.pos (by omega) (Ev.pos (by omega) (Ev.neg ?_ (Ev.pos hp (Ev.pos hq g))))
      rw [hp, less_irrefl]
      decide
theorem add_both (l : List S44) (hl : smL sm44 l) (x : S44) (hx : sm44 x) : ∃ (r : List S44) (e : Int), Ev (fun k => spec_AddDuty.f k l x.f0 x.f1 x.f2 x.f3) (r, e) ∧ Ev (fun k => impl_AddDuty.f k l x.f0 x.f1 x.f2 x.f3) (r, e) ∧ r.length ≤ 33 := by
  obtain ⟨b, g1, g2, g3⟩ := duties_both l hl
  have xz : x.f0.size ≤ 1048576 := hx.1
  obtain ⟨v, u1, u2, u3⟩ := duty_both x (by omega)
  simp only [spec_AddDuty.f, impl_AddDuty.f]
  cases b with
  | false => exact ⟨[], 1, Ev.bind g1 (Ev.neg (by decide) (Ev.now _)), Ev.bind g2 (Ev.neg (by decide) (Ev.now _)), by simp⟩
  | true =>
    obtain ⟨hn, hp⟩ := g3 rfl
    cases v with
    | false => exact ⟨[], 2, Ev.bind g1 (Ev.pos rfl (Ev.bind u1 (Ev.neg (by decide) (Ev.now _)))), Ev.bind g2 (Ev.pos rfl (Ev.bind u2 (Ev.neg (by decide) (Ev.now _)))), by simp⟩
    | true =>
      by_cases h32 : l.length = 32
      · exact ⟨[], 5, Ev.bind g1 (Ev.pos rfl (Ev.bind u1 (Ev.pos rfl (Ev.pos (by omega) (Ev.now _))))), Ev.bind g2 (Ev.pos rfl (Ev.bind u2 (Ev.pos rfl (Ev.pos (by omega) (Ev.now _))))), by simp⟩
      · obtain ⟨c, hc⟩ := bef_cut l hp x
        have hcn := hc.1
        obtain ⟨out, hout⟩ : ∃ out, out = l.take c ++ [x] ++ l.drop c := ⟨_, rfl⟩
        have lo : out.length = l.length + 1 := by
          rw [hout]
          simp only [List.length_append, List.length_take, List.length_drop, List.length_cons, List.length_nil]
          omega
        have smo : smL sm44 out := by
          refine ⟨by omega, fun w hw => ?_⟩
          rw [hout] at hw
          simp only [List.mem_append, List.mem_singleton] at hw
          rcases hw with (h | h) | h
          · exact hl.2 w (List.mem_of_mem_take h)
          · rw [h]; exact hx
          · exact hl.2 w (List.mem_of_mem_drop h)
        obtain ⟨v, v1, v2, _⟩ := duties_both out smo
        obtain ⟨bb, hbin0⟩ := binLoop l (by omega) x c hc l.length 0 l.length (by omega) (by omega) hc.1 (Nat.le_refl _)
        have hbin : Ev (fun k => slices_BinarySearchFunc_Duty.f k l x.f0 x.f1 x.f2 x.f3) ((c : Int), bb) := hbin0
        have hcl : slices_Clone_Duty.f l = some l := by
          simp only [slices_Clone_Duty.f, Option.bind_some, List.nil_append, List.length_nil]
          rw [if_pos (by omega)]
        have hin : slices_Insert_Duty.f l (c : Int) [(⟨x.f0, x.f1, x.f2, x.f3⟩ : S44)] = some out := by
          rw [slices_Insert_Duty.f, if_pos ⟨by omega, by omega, rfl, by omega⟩, Int.toNat_natCast, hout]
        cases v with
        | true =>
          exact ⟨out, 0, Ev.bind g1 (Ev.pos rfl (Ev.bind u1 (Ev.pos rfl (Ev.neg (by omega) (scan l (by omega) x c hc out hout _ (Ev.bind v1 (Ev.pos rfl (Ev.now _))) c 0 (by omega)))))),
            Ev.bind g2 (Ev.pos rfl (Ev.bind u2 (Ev.pos rfl (Ev.neg (by omega) (Ev.bind hbin (Ev.bind (Ev.lit hcl) (Ev.bind (Ev.lit hin) (Ev.bind v2 (Ev.pos rfl (Ev.now _)))))))))), by omega⟩
        | false =>
          exact ⟨[], 6, Ev.bind g1 (Ev.pos rfl (Ev.bind u1 (Ev.pos rfl (Ev.neg (by omega) (scan l (by omega) x c hc out hout _ (Ev.bind v1 (Ev.neg (by decide) (Ev.now _))) c 0 (by omega)))))),
            Ev.bind g2 (Ev.pos rfl (Ev.bind u2 (Ev.pos rfl (Ev.neg (by omega) (Ev.bind hbin (Ev.bind (Ev.lit hcl) (Ev.bind (Ev.lit hin) (Ev.bind v2 (Ev.neg (by decide) (Ev.now _)))))))))), by simp⟩
theorem FnExactAddDuty : ∀ (x0 : List (S37)) (x1 : S37), (wfL wf37) x0 → wf37 x1 → ∃ k, laws_FnExactAddDuty.f k x0 x1.f0 x1.f1 x1.f2 x1.f3 = some true := by
  intro x0 x1 hw0 hw1
  refine Ev.rounds (r := true) ?_
  simp only [laws_FnExactAddDuty.f]
  obtain ⟨t, ht, _, _, hs⟩ := laws_szDutyS_ev x0 1048576 hw0 (by omega) (by omega)
  refine Ev.bind ht ?_
  by_cases c : t < 0
  · exact Ev.pos c (Ev.now _)
  refine Ev.neg c ?_
  obtain ⟨u, hu, _, _, hs2⟩ := laws_szDuty_ev x1 t hw1 (by omega) (by omega)
  refine Ev.bind hu ?_
  by_cases c2 : u < 0
  · exact Ev.pos c2 (Ev.now _)
  refine Ev.neg c2 ?_
  have sm := hs (by omega)
  have smx := hs2 (by omega)
  have sm2 := smL_map cv37 cv37_sm sm
  have smx2 := cv37_sm x1 smx
  have hto := laws_toDutyS_ev x0 sm
  have hx := laws_toDuty_ev x1 smx
  have hn := sm2.1
  obtain ⟨r, e, h1, h2, h3⟩ := add_both _ sm2 (cv37 x1) smx2
  have q0 := laws_eqDutyS_refl (x0.map cv37) (by omega)
  have q1 := laws_eqDutyS_refl r (by omega)
  obtain ⟨m0, k0, _, _⟩ := laws_markDutyS_ev (x0.map cv37) 1 (by omega) (by omega)
  obtain ⟨m1, k1, e1, j1⟩ := laws_markDutyS_ev r 1 (by omega) (by omega)
  have v1 := laws_heldDutyS_ev 1 (by omega) m1 (by omega) (by rw [e1]; exact j1)
  rw [e1] at v1
  repeat' first | (with_reducible exact Ev.now _) | (with_reducible exact hto) | (with_reducible exact hx) | (with_reducible exact h1) | (with_reducible exact h2) | (with_reducible exact q0) | (with_reducible exact q1) | (with_reducible exact k0) | (with_reducible exact k1) | (with_reducible exact v1) | ((with_reducible refine Ev.pos ?_ ?_); focus (first | with_reducible assumption | with_reducible rfl | omega | rfl | trivial)) | ((with_reducible refine Ev.neg ?_ ?_); focus (first | with_reducible assumption | omega | (simp; done) | (dsimp only; omega))) | (with_reducible refine Ev.bind hto ?_) | (with_reducible refine Ev.bind hx ?_) | (with_reducible refine Ev.bind h1 ?_) | (with_reducible refine Ev.bind h2 ?_) | (with_reducible refine Ev.bind q0 ?_) | (with_reducible refine Ev.bind q1 ?_) | (with_reducible refine Ev.bind k0 ?_) | (with_reducible refine Ev.bind k1 ?_) | (with_reducible refine Ev.bind v1 ?_) | (with_reducible refine Ev.bind (Ev.shift hto) ?_) | (with_reducible refine Ev.bind (Ev.shift hx) ?_) | (with_reducible refine Ev.bind (Ev.shift h1) ?_) | (with_reducible refine Ev.bind (Ev.shift h2) ?_) | (with_reducible refine Ev.bind (Ev.shift q0) ?_) | (with_reducible refine Ev.bind (Ev.shift q1) ?_) | (with_reducible refine Ev.bind (Ev.shift k0) ?_) | (with_reducible refine Ev.bind (Ev.shift k1) ?_) | (with_reducible refine Ev.bind (Ev.shift v1) ?_) | (refine Ev.succ ?_; simp only [laws_FnExactAddDuty.j0]) | (refine Ev.succ ?_; simp only [laws_FnExactAddDuty.j1]) | (refine Ev.succ ?_; simp only [laws_FnExactAddDuty.j2]) | (with_reducible refine Ev.sb ?_) | dsimp only
end Go.Proofs.Ytjccjmjnlblhaaa.Pure
