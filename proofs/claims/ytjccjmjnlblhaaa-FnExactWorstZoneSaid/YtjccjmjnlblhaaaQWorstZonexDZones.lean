/- Zones: the bounds of the zones between meters, by both sides. Conditions: valid meters. -/
import Derived.Test.YtjccjmjnlblhaaaQWorstZonex1
import Derived.Test.YtjccjmjnlblhaaaQWorstZonex2
import Derived.Test.YtjccjmjnlblhaaaQWorstZonex4
import Derived.Test.YtjccjmjnlblhaaaQWorstZonex5
import Derived.Test.YtjccjmjnlblhaaaQWorstZonexL
import Derived.Test.YtjccjmjnlblhaaaQWorstZonexDMeters
namespace Go.Proofs.Ytjccjmjnlblhaaa.QWorstZone
open Go.RowKit Go.Proofs.YtjccjmjnlblhaaaW.PrintWords Go.Proofs.Ytjccjmjnlblhaaa.QOpen Go.Proofs.Ytjccjmjnlblhaaa.QEv
set_option linter.unusedVariables false
set_option linter.unusedSimpArgs false
def lo (a b : S170) : Int := max 0 (max 0 (a.f1 - a.f2) - (b.f1 + b.f2))
def hi (a b : S170) : Int := a.f1 + a.f2 - max 0 (b.f1 - b.f2)
theorem smax_eq (a b : Int) : spec_l00Max.f a b = some (max a b) := by
  simp only [spec_l00Max.f]
  by_cases c : a > b
  · rw [if_pos c]; congr 1; omega
  · rw [if_neg c]; congr 1; omega
theorem mx_max (a : Int) : mx a 0 = max 0 a := by
  unfold mx
  split <;> omega
theorem one_rd (a : S170) : rd_T170 [a] 0 = a := rfl
theorem w01 : wrap64 ((0 : Int) + 1) = 1 := wid (by decide) (by decide)
theorem sums_ev (a : S170) (h : MeterOk a) : Ev (fun k => impl_sumsOf.f k [a]) (max 0 (a.f1 - a.f2), a.f1 + a.f2) := by
  obtain ⟨_, h1, h2, h3, h4⟩ := h
  have e1 : wrap64 (a.f1 - a.f2) = a.f1 - a.f2 := wid (by omega) (by omega)
  have e2 : wrap64 (a.f1 + a.f2) = a.f1 + a.f2 := wid (by omega) (by omega)
  have e3 : wrap64 (0 + max 0 (a.f1 - a.f2)) = max 0 (a.f1 - a.f2) := by rw [wid (by omega) (by omega)]; omega
  have e4 : wrap64 (0 + (a.f1 + a.f2)) = a.f1 + a.f2 := by rw [wid (by omega) (by omega)]; omega
  simp only [impl_sumsOf.f, List.length_singleton]
  refine Ev.succ ?_
  simp only [impl_sumsOf.l0, one_rd, e1, e2, mx_max, e3, e4, w01, List.length_singleton]
  refine Ev.pos (by decide) (Ev.pos (by decide) (Ev.pos (by decide) (Ev.succ ?_)))
  simp only [impl_sumsOf.l0]
  exact Ev.neg (by decide) (Ev.now _)
theorem bounds_ev (a b : S170) (ha : MeterOk a) (hb : MeterOk b) : Ev (fun k => spec_l17Bounds.f k [a] [b]) (lo a b, hi a b) ∧ Ev (fun k => impl_leakBounds.f k [a] [b]) (lo a b, hi a b) := by
  have sa := sums_ev a ha
  have sb := sums_ev b hb
  obtain ⟨_, h1, h2, h3, h4⟩ := ha
  obtain ⟨_, g1, g2, g3, g4⟩ := hb
  have e1 : wrap64 (a.f1 - a.f2) = a.f1 - a.f2 := wid (by omega) (by omega)
  have e2 : wrap64 (a.f1 + a.f2) = a.f1 + a.f2 := wid (by omega) (by omega)
  have e3 : wrap64 (0 + max 0 (a.f1 - a.f2)) = max 0 (a.f1 - a.f2) := by rw [wid (by omega) (by omega)]; omega
  have e4 : wrap64 (0 + (a.f1 + a.f2)) = a.f1 + a.f2 := by rw [wid (by omega) (by omega)]; omega
  have f1 : wrap64 (b.f1 - b.f2) = b.f1 - b.f2 := wid (by omega) (by omega)
  have f2 : wrap64 (b.f1 + b.f2) = b.f1 + b.f2 := wid (by omega) (by omega)
  have f3 : wrap64 (max 0 (a.f1 - a.f2) - (b.f1 + b.f2)) = max 0 (a.f1 - a.f2) - (b.f1 + b.f2) := wid (by omega) (by omega)
  have f4 : wrap64 (a.f1 + a.f2 - max 0 (b.f1 - b.f2)) = a.f1 + a.f2 - max 0 (b.f1 - b.f2) := wid (by omega) (by omega)
  constructor
  · simp only [spec_l17Bounds.f]
    refine Ev.succ ?_
    simp only [spec_l17Bounds.l0, one_rd, e1, e2, smax_eq, Option.bind_some, e3, e4, w01, List.length_singleton]
    refine Ev.pos (by decide) (Ev.pos (by decide) (Ev.succ ?_))
    simp only [spec_l17Bounds.l0, List.length_singleton]
    refine Ev.neg (by decide) (Ev.succ ?_)
    simp only [spec_l17Bounds.l1, one_rd, f1, f2, smax_eq, Option.bind_some, f3, f4, w01, List.length_singleton]
    refine Ev.pos (by decide) (Ev.pos (by decide) (Ev.succ ?_))
    simp only [spec_l17Bounds.l1, smax_eq, Option.bind_some, List.length_singleton]
    exact Ev.neg (by decide) (Ev.now _)
  · simp only [impl_leakBounds.f]
    refine Ev.bind sa (Ev.bind sb (Ev.eqn (Ev.now _) ?_))
    rw [f3, f4, mx_max]
    rfl
def bad (y : List Int) : Prop := y.getD 1 0 < y.getD 0 0
instance (y : List Int) : Decidable (bad y) := by unfold bad; infer_instance
theorem seg (l : List S170) (i : Nat) (h : i < l.length) : (l.take (i + 1)).drop i = [l.getD i z170] := by
  rw [List.take_succ_eq_append_getElem h, List.drop_append_of_le_length (by rw [List.length_take]; omega), List.drop_eq_nil_of_le (by rw [List.length_take]; omega), getD_at l i _ h]
  rfl
theorem zonesLoop (l : List S170) (hn : l.length ≤ 16) (hp : ∀ j, j < l.length → MeterOk (l.getD j z170)) : ∀ (d i : Nat) (out : List (List Int)), l.length ≤ i + d → 1 ≤ i → i ≤ 20 → out.length ≤ i →
    ∃ zs : List (List Int), Ev (fun k => spec_l17Zones.l0 k l out (i : Int)) (out ++ zs) ∧ zs.length ≤ d ∧ (∀ y ∈ zs, y.length = 2) ∧ ((∀ y ∈ zs, ¬ bad y) → Ev (fun k => impl_ZoneBounds.l0 k l out (i : Int)) (out ++ zs, 0)) ∧ ((∃ y ∈ zs, bad y) → Ev (fun k => impl_ZoneBounds.l0 k l out (i : Int)) ([], 6)) := by
  have stop : ∀ (i : Nat) (out : List (List Int)), ¬ i < l.length → ∃ zs : List (List Int), Ev (fun k => spec_l17Zones.l0 k l out (i : Int)) (out ++ zs) ∧ zs.length ≤ 0 ∧ (∀ y ∈ zs, y.length = 2) ∧ ((∀ y ∈ zs, ¬ bad y) → Ev (fun k => impl_ZoneBounds.l0 k l out (i : Int)) (out ++ zs, 0)) ∧ ((∃ y ∈ zs, bad y) → Ev (fun k => impl_ZoneBounds.l0 k l out (i : Int)) ([], 6)) := by
    intro i out hi
    refine ⟨[], Ev.succ ?_, by simp, fun y hy => (by cases hy), fun _ => Ev.succ ?_, fun ⟨y, hy, _⟩ => (by cases hy)⟩
    · simp only [spec_l17Zones.l0, List.append_nil]
      exact Ev.neg (by omega) (Ev.now _)
    · simp only [impl_ZoneBounds.l0, List.append_nil]
      exact Ev.neg (by omega) (Ev.now _)
  intro d
  induction d with
  | zero =>
    intro i out h0 h1 h2 h3
    exact stop i out (by omega)
  | succ d ih =>
    intro i out h0 h1 h2 h3
    by_cases c : i < l.length
    · obtain ⟨j, rfl⟩ : ∃ j, i = j + 1 := ⟨i - 1, by omega⟩
      obtain ⟨b1, b2⟩ := bounds_ev _ _ (hp j (by omega)) (hp (j + 1) c)
      have s1 := seg l j (by omega)
      have s2 := seg l (j + 1) c
      generalize l.getD j z170 = a at *
      generalize l.getD (j + 1) z170 = b at *
      have w1 : wrap64 (((j + 1 : Nat) : Int) - 1) = (j : Int) := by rw [wid (by omega) (by omega)]; omega
      obtain ⟨zs, g1, g2, g3, g4, g5⟩ := ih (j + 1 + 1) (out ++ [[lo a b, hi a b]]) (by omega) (by omega) (by omega) (by simp; omega)
      have ap : out ++ [[lo a b, hi a b]] ++ zs = out ++ ([lo a b, hi a b] :: zs) := by simp
      rw [ap] at g1 g4
      refine ⟨[lo a b, hi a b] :: zs, Ev.succ ?_, by simp; omega, fun y hy => ?_, fun hg => Ev.succ ?_, fun hb => Ev.succ ?_⟩
      · simp only [spec_l17Zones.l0, w1, wnat (j + 1) (by omega), Int.toNat_natCast, s1, s2]
        exact Ev.pos (by omega) (Ev.pos (by omega) (Ev.pos (by omega) (Ev.pos (by omega) (Ev.pos (by omega) (Ev.pos (by omega) (Ev.pos (by omega) (Ev.bind b1 (Ev.pos (by omega) g1))))))))
      · rcases List.mem_cons.1 hy with h | h
        · rw [h]; rfl
        · exact g3 y h
      · have n1 : ¬ hi a b < lo a b := hg [lo a b, hi a b] (by simp)
        simp only [impl_ZoneBounds.l0, w1, wnat (j + 1) (by omega), Int.toNat_natCast, s1, s2]
        exact Ev.pos (by omega) (Ev.pos (by omega) (Ev.pos (by omega) (Ev.pos (by omega) (Ev.pos (by omega) (Ev.pos (by omega) (Ev.pos (by omega) (Ev.bind b2 (Ev.neg n1 (Ev.pos (by omega) (g4 fun y hy => hg y (by simp [hy]))))))))))) 
      · simp only [impl_ZoneBounds.l0, w1, wnat (j + 1) (by omega), Int.toNat_natCast, s1, s2]
        refine Ev.pos (by omega) (Ev.pos (by omega) (Ev.pos (by omega) (Ev.pos (by omega) (Ev.pos (by omega) (Ev.pos (by omega) (Ev.pos (by omega) (Ev.bind b2 ?_)))))))
        by_cases n1 : hi a b < lo a b
        · exact Ev.pos n1 (Ev.now _)
        · refine Ev.neg n1 (Ev.pos (by omega) (g5 ?_))
          obtain ⟨y, hy, hz⟩ := hb
          rcases List.mem_cons.1 hy with h | h
          · rw [h] at hz; exact absurd hz n1
          · exact ⟨y, h, hz⟩
    · obtain ⟨zs, g1, g2, g3⟩ := stop i out c
      exact ⟨zs, g1, by omega, g3⟩
theorem zones_ev (l : List S170) (hn : l.length ≤ 16) (hp : ∀ j, j < l.length → MeterOk (l.getD j z170)) : ∃ zs : List (List Int), Ev (fun k => spec_l17Zones.f k l) zs ∧ zs.length ≤ 16 ∧ (∀ y ∈ zs, y.length = 2) ∧ ((∀ y ∈ zs, ¬ bad y) → Ev (fun k => impl_ZoneBounds.l0 k l [] 1) (zs, 0)) ∧ ((∃ y ∈ zs, bad y) → Ev (fun k => impl_ZoneBounds.l0 k l [] 1) ([], 6)) := by
  obtain ⟨zs, g1, g2, g3, g4, g5⟩ := zonesLoop l hn hp 16 1 [] (by omega) (by omega) (by omega) (by simp)
  exact ⟨zs, g1, g2, g3, g4, g5⟩
theorem zrd (x : List (List Int)) (j : Nat) : rd_L4 x (j : Int) = x.getD j [] := rfl
theorem some_bad (zs : List (List Int)) : (∀ y ∈ zs, ¬ bad y) ∨ ∃ y ∈ zs, bad y := by
  by_cases h : ∃ y ∈ zs, bad y
  · exact Or.inr h
  · exact Or.inl fun y hy hb => h ⟨y, hy, hb⟩
end Go.Proofs.Ytjccjmjnlblhaaa.QWorstZone
