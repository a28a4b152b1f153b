/- FnExactAddReading: the program's AddReading and the reference's return one and the same for all arguments, and the readings stay as they were. Conditions: none beyond the statement's own guard. -/
import Derived.Test.YtjccjmjnlblhaaaQAddReadingx2
import Derived.Test.YtjccjmjnlblhaaaQAddReadingx3
import Derived.Test.YtjccjmjnlblhaaaQAddReadingx5
import Derived.Test.YtjccjmjnlblhaaaQAddReadingx6
import Derived.Test.YtjccjmjnlblhaaaQAddReadingx8
import Derived.Test.YtjccjmjnlblhaaaQAddReadingxL
import Derived.Test.YtjccjmjnlblhaaaQAddReadingxDCut
import Derived.Test.YtjccjmjnlblhaaaQAddReadingxDReadOnly
namespace Go.Proofs.Ytjccjmjnlblhaaa.Pure
open Go.RowKit Go.Proofs.Ytjccjmjnlblhaaa.QAddReading Go.Proofs.YtjccjmjnlblhaaaW.PrintWords Go.Proofs.Ytjccjmjnlblhaaa.QOpen Go.Proofs.Ytjccjmjnlblhaaa.QEv
set_option linter.unusedVariables false
set_option linter.unusedSimpArgs false
theorem cmp_is (a b : Int) : cmp_Compare_int64.f a b = some (if a < b then -1 else if a > b then 1 else 0) := by
  simp only [cmp_Compare_int64.f, cmp_isNaN_int64.f, Option.bind_some, bne_self_eq_false]
  by_cases c : a < b
  · simp [c]
  · by_cases c2 : a > b
    · simp [c, c2]
    · simp [c, c2]
theorem before_eq (a b x : Int) : impl_hourBefore.f a b x = some (if a < x then -1 else if a > x then 1 else 0) := by
  simp only [impl_hourBefore.f, cmp_is, Option.bind_some]
def hr (l : List S30) (j : Nat) : Int := (l.getD j z30).f0
theorem hr_rd (l : List S30) (j : Nat) : (rd_T30 l (j : Int)).f0 = hr l j := rfl
def Bef (l : List S30) (x : Int) (j : Nat) : Prop := hr l j < x
theorem hr_mono (l : List S30) (h : ∀ j, j < l.length → ReadOk l j) : ∀ d i : Nat, i + d < l.length → hr l i ≤ hr l (i + d) := by
  intro d
  induction d with
  | zero => intro i _; exact Int.le_refl _
  | succ d ih =>
    intro i hi
    have a := ih i (by omega)
    have b := ((h (i + (d + 1)) hi).2.2.2.2 (by omega)).1
    have e : i + (d + 1) - 1 = i + d := by omega
    rw [e] at b
    unfold hr at *
    omega
theorem bef_cut (l : List S30) (h : ∀ j, j < l.length → ReadOk l j) (x : Int) : ∃ c, IsCut (Bef l x) l.length c :=
  cut_ex _ _ fun i j hi hj hp => by
    have a := hr_mono l h (j - i) i (by omega)
    rw [show i + (j - i) = j by omega] at a
    unfold Bef at *
    omega
def isAt (l : List S30) (x : Int) (c : Nat) : Bool := decide (c < l.length ∧ hr l c = x)
theorem binStop (l : List S30) (hn : l.length ≤ 1000) (x : Int) (c : Nat) (hc : IsCut (Bef l x) l.length c) : Ev (fun k => slices_BinarySearchFunc_int64.l0 k l x (l.length : Int) (c : Int) (c : Int)) ((c : Int), isAt l x c) := by
  refine Ev.succ ?_
  simp only [slices_BinarySearchFunc_int64.l0, before_eq, hr_rd, Option.bind_some]
  refine Ev.neg (by omega) ?_
  by_cases h : c < l.length
  · have np := hc.2.2 c (Nat.le_refl _) h
    unfold Bef at np
    refine Ev.pos (by omega) (Ev.pos (by omega) (Ev.pos (by omega) (Ev.eqn (Ev.now _) ?_)))
    rw [if_neg np]
    unfold isAt
    by_cases e : hr l c = x
    · rw [if_neg (by omega), decide_eq_true ⟨h, e⟩]
      rfl
    · rw [if_pos (by omega), decide_eq_false (fun z => e z.2)]
      rfl
  · refine Ev.neg (by omega) (Ev.eqn (Ev.now _) ?_)
    unfold isAt
    rw [decide_eq_false (fun z => h z.1)]
theorem binLoop (l : List S30) (hn : l.length ≤ 1000) (x : Int) (c : Nat) (hc : IsCut (Bef l x) l.length c) : ∀ d lo hi : Nat, hi - lo ≤ d → lo ≤ c → c ≤ hi → hi ≤ l.length →
    Ev (fun k => slices_BinarySearchFunc_int64.l0 k l x (l.length : Int) (lo : Int) (hi : Int)) ((c : Int), isAt l x c) := by
  intro d
  induction d with
  | zero =>
    intro lo hi h0 h1 h2 h3
    have e1 : lo = c := by omega
    have e2 : hi = c := by omega
    subst e1
    rw [e2]
    exact binStop l hn x _ hc
  | succ d ih =>
    intro lo hi h0 h1 h2 h3
    by_cases h : lo < hi
    · refine Ev.succ ?_
      simp only [slices_BinarySearchFunc_int64.l0, mid_eq lo hi (by omega), before_eq, hr_rd, Option.bind_some]
      refine Ev.pos (by omega) (Ev.pos (by omega) (Ev.pos (by omega) ?_))
      by_cases hp : hr l ((lo + hi) / 2) < x
      · have hm : (lo + hi) / 2 < c := by
          by_cases g : (lo + hi) / 2 < c
          · exact g
          · exact absurd hp (hc.2.2 _ (by omega) (by omega))
        rw [if_pos hp, wnat ((lo + hi) / 2) (by omega)]
        exact Ev.pos (by decide) (ih ((lo + hi) / 2 + 1) hi (by omega) (by omega) h2 h3)
      · have hm : c ≤ (lo + hi) / 2 := by
          by_cases g : c ≤ (lo + hi) / 2
          · exact g
          · exact absurd (hc.2.1 _ (by omega)) hp
        rw [if_neg hp]
        exact Ev.neg (by split <;> decide) (ih lo ((lo + hi) / 2) (by omega) h1 hm (by omega))
    · have e1 : lo = c := by omega
      have e2 : hi = c := by omega
      subst e1
      rw [e2]
      exact binStop l hn x _ hc
theorem scan (l : List S30) (hn : l.length ≤ 1000) (x y : Int) (c : Nat) (hc : IsCut (Bef l x) l.length c) (r : List S30 × Int) (h : Ev (fun k => spec_AddReading.j2 k l (c : Int) (isAt l x c) x y) r) : ∀ d i : Nat, i + d = c →
    Ev (fun k => spec_AddReading.l0 k l (i : Int) x y) r := by
  have hcn := hc.1
  intro d
  induction d with
  | zero =>
    intro i hi
    have e : i = c := by omega
    subst e
    have hj : Ev (fun k => spec_AddReading.j1 k l (i : Int) x y) r := by
      refine Ev.succ ?_
      simp only [spec_AddReading.j1, hr_rd]
      by_cases g : i < l.length
      · have e : (hr l i == x) = isAt l x i := by
          unfold isAt
          by_cases e2 : hr l i = x
          · rw [decide_eq_true ⟨g, e2⟩, e2]; simp
          · rw [decide_eq_false (fun z => e2 z.2)]; simpa using e2
        rw [e]
        exact Ev.pos (by omega) (Ev.pos (by omega) h)
      · have e : isAt l x i = false := by
          unfold isAt
          exact decide_eq_false (fun z => g z.1)
        rw [e] at h
        exact Ev.neg (by omega) h
    refine Ev.succ ?_
    simp only [spec_AddReading.l0, hr_rd]
    by_cases g : i < l.length
    · exact Ev.pos (by omega) (Ev.pos (by omega) (Ev.neg (hc.2.2 i (Nat.le_refl _) g) hj))
    · exact Ev.neg (by omega) hj
  | succ d ih =>
    intro i hi
    refine Ev.succ ?_
    simp only [spec_AddReading.l0, hr_rd, wnat i (by omega)]
    exact Ev.pos (by omega) (Ev.pos (by omega) (Ev.pos (hc.2.1 i (by omega)) (ih (i + 1) (by omega))))
theorem add_both (l : List S30) (hl : l.length ≤ 1048576) (x y : Int) : ∃ (r : List S30) (e : Int), Ev (fun k => spec_AddReading.f k l x y) (r, e) ∧ Ev (fun k => impl_AddReading.f k l x y) (r, e) ∧ r.length ≤ 49 := by
  obtain ⟨b, g1, g2, g3⟩ := reads_both l hl
  simp only [spec_AddReading.f, impl_AddReading.f, one_eq, read_eq, Option.bind_some]
  cases b with
  | false => exact ⟨[], 1, Ev.bind g1 (Ev.neg (by decide) (Ev.now _)), Ev.bind g2 (Ev.neg (by decide) (Ev.now _)), by simp⟩
  | true =>
    obtain ⟨hn, hp⟩ := g3 rfl
    obtain ⟨c, hc⟩ := bef_cut l hp x
    have hcn := hc.1
    have hbin : Ev (fun k => slices_BinarySearchFunc_int64.f k l x) ((c : Int), isAt l x c) := binLoop l (by omega) x c hc l.length 0 l.length (by omega) (by omega) hc.1 (Nat.le_refl _)
    by_cases cr : (0 ≤ x ∧ x ≤ 100000) ∧ (0 ≤ y ∧ y ≤ 1000000000)
    · have fin : ∀ (r : List S30) (e : Int), Ev (fun k => spec_AddReading.j2 k l (c : Int) (isAt l x c) x y) (r, e) → Ev (fun k => spec_AddReading.l0 k l 0 x y) (r, e) := fun r e h => scan l (by omega) x y c hc _ h c 0 (by omega)
      cases ha : isAt l x c with
      | true =>
        rw [ha] at hbin fin
        refine ⟨[], 4, Ev.bind g1 (Ev.pos rfl (Ev.pos (decide_eq_true cr) (fin _ _ (Ev.succ ?_)))), Ev.bind g2 (Ev.pos rfl (Ev.bind hbin (Ev.pos (decide_eq_true cr) (Ev.pos rfl (Ev.now _))))), by simp⟩
        simp only [spec_AddReading.j2]
        exact Ev.pos (by first | rfl | trivial) (Ev.now _)
      | false =>
        rw [ha] at hbin fin
        by_cases h48 : l.length = 48
        · refine ⟨[], 5, Ev.bind g1 (Ev.pos rfl (Ev.pos (decide_eq_true cr) (fin _ _ (Ev.succ ?_)))), Ev.bind g2 (Ev.pos rfl (Ev.bind hbin (Ev.pos (decide_eq_true cr) (Ev.neg (fun z => by cases z) (Ev.pos (by omega) (Ev.now _)))))), by simp⟩
          simp only [spec_AddReading.j2]
          exact Ev.neg (by decide) (Ev.pos (by omega) (Ev.now _))
        · obtain ⟨out, hout⟩ : ∃ out, out = l.take c ++ [(⟨x, y⟩ : S30)] ++ l.drop c := ⟨_, rfl⟩
          have lo : out.length = l.length + 1 := by
            rw [hout]
            simp only [List.length_append, List.length_take, List.length_drop, List.length_cons, List.length_nil]
            omega
          obtain ⟨v, v1, v2, _⟩ := reads_both out (by omega)
          have hcl : slices_Clone_Reading.f l = some l := by
            simp only [slices_Clone_Reading.f, Option.bind_some, List.nil_append, List.length_nil]
            rw [if_pos (by omega)]
          have hin : slices_Insert_Reading.f l (c : Int) [(⟨x, y⟩ : S30)] = some out := by
            rw [slices_Insert_Reading.f, if_pos ⟨by omega, by omega, rfl, by omega⟩, Int.toNat_natCast, hout]
          have hs : ∀ r : List S30 × Int, Ev (fun k => (spec_l06Ok.f k out).bind fun t => if t = true then some (out, 0) else some (([] : List S30), 6)) r → Ev (fun k => spec_AddReading.j2 k l (c : Int) false x y) r := by
            intro r hr
            refine Ev.succ ?_
            simp only [spec_AddReading.j2, Option.bind_some, Int.toNat_natCast, List.nil_append, List.length_nil]
            refine Ev.neg (by decide) (Ev.neg (by omega) (Ev.pos (by omega) (Ev.pos (by omega) (Ev.pos ?_ (Ev.pos ?_ (Ev.pos ?_ ?_))))))
            all_goals first | (rw [← hout]; exact hr) | (simp only [List.length_append, List.length_take, List.length_drop, List.length_cons, List.length_nil]; omega)
          cases v with
          | true =>
            exact ⟨out, 0, Ev.bind g1 (Ev.pos rfl (Ev.pos (decide_eq_true cr) (fin _ _ (hs _ (Ev.bind v1 (Ev.pos rfl (Ev.now _))))))),
              Ev.bind g2 (Ev.pos rfl (Ev.bind hbin (Ev.pos (decide_eq_true cr) (Ev.neg (fun z => by cases z) (Ev.neg (by omega) (Ev.bind (Ev.lit hcl) (Ev.bind (Ev.lit hin) (Ev.bind v2 (Ev.pos rfl (Ev.now _)))))))))), by omega⟩
          | false =>
            exact ⟨[], 6, Ev.bind g1 (Ev.pos rfl (Ev.pos (decide_eq_true cr) (fin _ _ (hs _ (Ev.bind v1 (Ev.neg (by decide) (Ev.now _))))))),
              Ev.bind g2 (Ev.pos rfl (Ev.bind hbin (Ev.pos (decide_eq_true cr) (Ev.neg (fun z => by cases z) (Ev.neg (by omega) (Ev.bind (Ev.lit hcl) (Ev.bind (Ev.lit hin) (Ev.bind v2 (Ev.neg (by decide) (Ev.now _)))))))))), by simp⟩
    · exact ⟨[], 2, Ev.bind g1 (Ev.pos rfl (Ev.neg (by simpa using cr) (Ev.now _))), Ev.bind g2 (Ev.pos rfl (Ev.bind hbin (Ev.neg (by simpa using cr) (Ev.now _)))), by simp⟩
theorem FnExactAddReading : ∀ (x0 : List (S24)) (x1 : S24), (wfL wf24) x0 → wf24 x1 → ∃ k, laws_FnExactAddReading.f k x0 x1.f0 x1.f1 = some true := by
  intro x0 x1 hw0 hw1
  refine Ev.rounds (r := true) ?_
  simp only [laws_FnExactAddReading.f]
  obtain ⟨t, ht, _, _, hs⟩ := laws_szReadingS_ev x0 1048576 hw0 (by omega) (by omega)
  refine Ev.bind ht ?_
  by_cases c : t < 0
  · exact Ev.pos c (Ev.now _)
  refine Ev.neg c ?_
  have sm := hs (by omega)
  have sm2 := smL_map cv24 cv24_sm sm
  have hto := laws_toReadingS_ev x0 sm
  have hn := sm2.1
  have hx : Ev (fun k => laws_toReading.f x1.f0 x1.f1) (x1.f0, x1.f1) := Ev.lit rfl
  obtain ⟨r, e, h1, h2, h3⟩ := add_both _ hn x1.f0 x1.f1
  have q0 := laws_eqReadingS_refl (x0.map cv24) (by omega)
  have q1 := laws_eqReadingS_refl r (by omega)
  obtain ⟨m0, k0, _, _⟩ := laws_markReadingS_ev (x0.map cv24) 1 (by omega) (by omega)
  obtain ⟨m1, k1, e1, j1⟩ := laws_markReadingS_ev r 1 (by omega) (by omega)
  have v1 := laws_heldReadingS_ev 1 (by omega) m1 (by omega) (by rw [e1]; exact j1)
  rw [e1] at v1
  repeat' first | (with_reducible exact Ev.now _) | (with_reducible exact hto) | (with_reducible exact hx) | (with_reducible exact h1) | (with_reducible exact h2) | (with_reducible exact q0) | (with_reducible exact q1) | (with_reducible exact k0) | (with_reducible exact k1) | (with_reducible exact v1) | ((with_reducible refine Ev.pos ?_ ?_); focus (first | with_reducible assumption | with_reducible rfl | omega | rfl | trivial)) | ((with_reducible refine Ev.neg ?_ ?_); focus (first | with_reducible assumption | omega | (simp; done) | (dsimp only; omega))) | (with_reducible refine Ev.bind hto ?_) | (with_reducible refine Ev.bind hx ?_) | (with_reducible refine Ev.bind h1 ?_) | (with_reducible refine Ev.bind h2 ?_) | (with_reducible refine Ev.bind q0 ?_) | (with_reducible refine Ev.bind q1 ?_) | (with_reducible refine Ev.bind k0 ?_) | (with_reducible refine Ev.bind k1 ?_) | (with_reducible refine Ev.bind v1 ?_) | (with_reducible refine Ev.bind (Ev.shift hto) ?_) | (with_reducible refine Ev.bind (Ev.shift hx) ?_) | (with_reducible refine Ev.bind (Ev.shift h1) ?_) | (with_reducible refine Ev.bind (Ev.shift h2) ?_) | (with_reducible refine Ev.bind (Ev.shift q0) ?_) | (with_reducible refine Ev.bind (Ev.shift q1) ?_) | (with_reducible refine Ev.bind (Ev.shift k0) ?_) | (with_reducible refine Ev.bind (Ev.shift k1) ?_) | (with_reducible refine Ev.bind (Ev.shift v1) ?_) | (refine Ev.succ ?_; simp only [laws_FnExactAddReading.j0]) | (refine Ev.succ ?_; simp only [laws_FnExactAddReading.j1]) | (refine Ev.succ ?_; simp only [laws_FnExactAddReading.j2]) | (with_reducible refine Ev.sb ?_) | dsimp only
end Go.Proofs.Ytjccjmjnlblhaaa.Pure
