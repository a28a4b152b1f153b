/- Meters: both sides hold one and the same for valid meters; the program asks a map of ids. Conditions: none. -/
import Derived.Test.YtjccjmjnlblhaaaQWorstZonex1
import Derived.Test.YtjccjmjnlblhaaaQWorstZonex4
import Derived.Test.YtjccjmjnlblhaaaQWorstZonexL
import Derived.Test.YtjccjmjnlblhaaaQWorstZonexDNames
namespace Go.Proofs.Ytjccjmjnlblhaaa.QWorstZone
open Go.RowKit Go.Proofs.YtjccjmjnlblhaaaW.PrintWords Go.Proofs.Ytjccjmjnlblhaaa.QOpen Go.Proofs.Ytjccjmjnlblhaaa.QEv
set_option linter.unusedVariables false
set_option linter.unusedSimpArgs false
def MeterOk (x : S170) : Prop := x.f0.size ≤ 10 ∧ 0 ≤ x.f1 ∧ x.f1 ≤ 100000 ∧ 0 ≤ x.f2 ∧ x.f2 ≤ 10000
theorem meter_both (x : S170) (hx : sm170 x) : ∃ b, Ev (fun k => spec_l17One.f k x.f0 x.f1 x.f2) b ∧ Ev (fun k => impl_Meter_valid.f k x.f0 x.f1 x.f2) b ∧ (b = true → MeterOk x) := by
  have hz : x.f0.size ≤ 1048576 := hx.1
  obtain ⟨b, h1, h2, h3⟩ := name_both x.f0 (by omega)
  simp only [spec_l17One.f, impl_Meter_valid.f, spec_in_eq, impl_within_eq, Option.bind_some, decide_eq_true_eq]
  cases b with
  | false => exact ⟨false, Ev.bind h1 (Ev.neg (by decide) (Ev.now _)), Ev.bind h2 (Ev.neg (by decide) (Ev.now _)), fun h => by cases h⟩
  | true =>
    by_cases c : 0 ≤ x.f1 ∧ x.f1 ≤ 100000
    · refine ⟨decide (0 ≤ x.f2 ∧ x.f2 ≤ 10000), Ev.bind h1 (Ev.pos rfl (Ev.pos c (Ev.now _))), Ev.bind h2 (Ev.pos rfl (Ev.pos c (Ev.now _))), fun h => ?_⟩
      have := of_decide_eq_true h
      have := h3 rfl
      unfold MeterOk
      omega
    · exact ⟨false, Ev.bind h1 (Ev.pos rfl (Ev.neg c (Ev.now _))), Ev.bind h2 (Ev.pos rfl (Ev.neg c (Ev.now _))), fun h => by cases h⟩
def mid (l : List S170) (j : Nat) : List UInt8 := (l.getD j z170).f0.toList
def ids (l : List S170) (i : Nat) : List ByteArray := (l.take i).map fun x => x.f0
theorem ids_any (l : List S170) (i : Nat) (hi : i ≤ l.length) (key : List UInt8) : ((ids l i).any fun z_ => z_.toList == key) = true ↔ ∃ m, m < i ∧ mid l m = key := by
  unfold ids
  rw [List.any_eq_true]
  constructor
  · rintro ⟨x, hx, e⟩
    obtain ⟨y, hy, rfl⟩ := List.mem_map.1 hx
    obtain ⟨m, hm, e2⟩ := List.getElem_of_mem hy
    have hml : m < i ∧ m < l.length := by
      rw [List.length_take] at hm
      omega
    refine ⟨m, hml.1, ?_⟩
    unfold mid
    rw [getD_at l m _ hml.2]
    rw [List.getElem_take] at e2
    rw [e2]
    exact eq_of_beq e
  · rintro ⟨m, hm, e⟩
    refine ⟨(l.getD m z170).f0, List.mem_map.2 ⟨l.getD m z170, ?_, rfl⟩, beq_iff_eq.2 e⟩
    have hm2 : m < (l.take i).length := by rw [List.length_take]; omega
    have e2 : (l.take i)[m] = l.getD m z170 := by rw [List.getElem_take, getD_at l m _ (by omega)]
    rw [← e2]
    exact List.getElem_mem _
theorem ids_succ (l : List S170) (i : Nat) (hi : i < l.length) : ids l i ++ [(l.getD i z170).f0] = ids l (i + 1) := by
  unfold ids
  rw [List.take_succ_eq_append_getElem hi, List.map_append, getD_at l i _ hi]
  rfl
theorem ids_len (l : List S170) (i : Nat) : (ids l i).length ≤ i := by
  unfold ids
  rw [List.length_map, List.length_take]
  omega
theorem inner (l : List S170) (hl : l.length ≤ 1048576) (i : Nat) (hi : i < l.length) : ∀ d j : Nat, j + d = i → ((∃ m, j ≤ m ∧ m < i ∧ mid l m = mid l i) → Ev (fun k => spec_l17Ok.l1 k l (i : Int) (j : Int)) false) ∧
    ((∀ m, j ≤ m → m < i → mid l m ≠ mid l i) → ∀ r, Ev (fun k => spec_l17Ok.l0 k l ((i + 1 : Nat) : Int)) r → Ev (fun k => spec_l17Ok.l1 k l (i : Int) (j : Int)) r) := by
  intro d
  induction d with
  | zero =>
    intro j hj
    refine ⟨fun ⟨m, h1, h2, _⟩ => absurd h1 (by omega), fun _ r hr => Ev.succ ?_⟩
    simp only [spec_l17Ok.l1, wnat i (by omega)]
    exact Ev.neg (by omega) hr
  | succ d ih =>
    intro j hj
    have ih := ih (j + 1) (by omega)
    by_cases c : mid l j = mid l i
    · refine ⟨fun _ => Ev.succ ?_, fun h => absurd c (h j (Nat.le_refl _) (by omega))⟩
      simp only [spec_l17Ok.l1]
      exact Ev.pos (by omega) (Ev.pos (by omega) (Ev.pos (by omega) (Ev.pos (by omega) (Ev.pos (by omega) (Ev.pos c (Ev.now _))))))
    · refine ⟨fun ⟨m, h1, h2, h3⟩ => Ev.succ ?_, fun h r hr => Ev.succ ?_⟩
      · have g := ih.1 ⟨m, by
          by_cases e : m = j
          · subst e; exact absurd h3 c
          · omega, h2, h3⟩
        simp only [spec_l17Ok.l1, wnat j (by omega)]
        exact Ev.pos (by omega) (Ev.pos (by omega) (Ev.pos (by omega) (Ev.pos (by omega) (Ev.pos (by omega) (Ev.neg c g)))))
      · have g := ih.2 (fun m h1 h2 => h m (by omega) h2) r hr
        simp only [spec_l17Ok.l1, wnat j (by omega)]
        exact Ev.pos (by omega) (Ev.pos (by omega) (Ev.pos (by omega) (Ev.pos (by omega) (Ev.pos (by omega) (Ev.neg c g)))))
theorem meterLoop (l : List S170) (hl : smL sm170 l) : ∀ d i : Nat, i + d = l.length →
    ∃ b, Ev (fun k => spec_l17Ok.l0 k l (i : Int)) b ∧ (16 < l.length → b = false) ∧ (l.length ≤ 16 → Ev (fun k => impl_ValidMeters.l0 k l (l.length : Int) (i : Int) (ids l i)) b) ∧ (b = true → ∀ j, i ≤ j → j < l.length → MeterOk (l.getD j z170)) := by
  have hl0 := hl.1
  intro d
  induction d with
  | zero =>
    intro i hi
    refine ⟨decide ((l.length : Int) ≤ 16), Ev.succ ?_, fun h => decide_eq_false (by omega), fun h => Ev.succ ?_, fun _ j h1 h2 => absurd h2 (by omega)⟩
    · simp only [spec_l17Ok.l0]
      exact Ev.neg (by omega) (Ev.now _)
    · simp only [impl_ValidMeters.l0]
      exact Ev.neg (by omega) (Ev.eqn (Ev.now _) (decide_eq_true (by omega)).symm)
  | succ d ih =>
    intro i hi
    have er : rd_T170 l (i : Int) = l.getD i z170 := rfl
    obtain ⟨v, g1, g2, g3⟩ := meter_both (l.getD i z170) (smL_get hl (j := i) _ (by omega))
    cases v with
    | false =>
      refine ⟨false, Ev.succ ?_, fun _ => rfl, fun h => Ev.succ ?_, fun h => by cases h⟩
      · simp only [spec_l17Ok.l0, er]
        exact Ev.pos (by omega) (Ev.pos (by omega) (Ev.bind g1 (Ev.neg (by decide) (Ev.now _))))
      · simp only [impl_ValidMeters.l0, er]
        exact Ev.pos (by omega) (Ev.pos (by omega) (Ev.pos (by omega) (Ev.bind g2 (Ev.neg (by decide) (Ev.now _)))))
    | true =>
      have hok := g3 rfl
      have sz := hok.1
      have il := ids_len l i
      have inn := inner l hl0 i (by omega) i 0 (by omega)
      have ia := ids_any l i (by omega) (mid l i)
      cases cd : ((ids l i).any fun z_ => z_.toList == mid l i) with
      | true =>
        obtain ⟨m, m1, m2⟩ := ia.1 cd
        refine ⟨false, Ev.succ ?_, fun _ => rfl, fun h => Ev.succ ?_, fun h => by cases h⟩
        · simp only [spec_l17Ok.l0, er]
          exact Ev.pos (by omega) (Ev.pos (by omega) (Ev.bind g1 (Ev.pos rfl (inn.1 ⟨m, by omega, m1, m2⟩))))
        · simp only [impl_ValidMeters.l0, er]
          exact Ev.pos (by omega) (Ev.pos (by omega) (Ev.pos (by omega) (Ev.bind g2 (Ev.pos rfl (Ev.pos (by omega) (Ev.pos (by omega) (Ev.pos cd (Ev.now _))))))))
      | false =>
        have nd : ∀ m, 0 ≤ m → m < i → mid l m ≠ mid l i := fun m _ hm e => by
          have := ia.2 ⟨m, hm, e⟩
          rw [cd] at this
          cases this
        obtain ⟨b, h1, h2, h3, h4⟩ := ih (i + 1) (by omega)
        refine ⟨b, Ev.succ ?_, h2, fun h => Ev.succ ?_, fun hb j hj hj2 => ?_⟩
        · simp only [spec_l17Ok.l0, er]
          exact Ev.pos (by omega) (Ev.pos (by omega) (Ev.bind g1 (Ev.pos rfl (inn.2 nd b h1))))
        · have g := h3 h
          rw [← ids_succ l i (by omega)] at g
          simp only [impl_ValidMeters.l0, er, wnat i (by omega)]
          exact Ev.pos (by omega) (Ev.pos (by omega) (Ev.pos (by omega) (Ev.bind g2 (Ev.pos rfl (Ev.pos (by omega) (Ev.pos (by omega) (Ev.neg (fun z => by
            have e : ((ids l i).any fun z_ => z_.toList == mid l i) = true := z
            rw [cd] at e
            cases e) g)))))))
        · by_cases e : j = i
          · subst e; exact hok
          · exact h4 hb j (by omega) hj2
theorem meters_both (l : List S170) (hl : smL sm170 l) : ∃ b, Ev (fun k => spec_l17Ok.f k l) b ∧ Ev (fun k => impl_ValidMeters.f k l) b ∧ (b = true → l.length ≤ 16 ∧ ∀ j, j < l.length → MeterOk (l.getD j z170)) := by
  obtain ⟨b, h1, h2, h3, h4⟩ := meterLoop l hl l.length 0 (by omega)
  by_cases h : l.length ≤ 16
  · refine ⟨b, h1, ?_, fun hb => ⟨h, fun j hj => h4 hb j (by omega) hj⟩⟩
    simp only [impl_ValidMeters.f]
    exact Ev.neg (by omega) (h3 h)
  · have hb := h2 (by omega)
    subst hb
    refine ⟨false, h1, ?_, fun h => by cases h⟩
    simp only [impl_ValidMeters.f]
    exact Ev.pos (by omega) (Ev.now _)
end Go.Proofs.Ytjccjmjnlblhaaa.QWorstZone
