/- ListText: a list of numbers as text, by both sides. Conditions: from 1 to 60 numbers within 10^12. -/
import Derived.Test.YtidfchlgdmnopaaDoorQDutyTextx2
import Derived.Test.YtidfchlgdmnopaaDoorQDutyTextx3
import Derived.Test.YtidfchlgdmnopaaDoorQDutyTextxL
import Derived.Test.YtidfchlgdmnopaaDoorQDutyTextxDDec
import Derived.Test.YtidfchlgdmnopaaDoorQDutyTextxDRanges
namespace Go.Proofs.YtidfchlgdmnopaaDoor.QDutyText
open Go.RowKit Go.Proofs.YtidfchlgdmnopaaDoorW.PrintWords Go.Proofs.YtidfchlgdmnopaaDoor.QOpen Go.Proofs.YtidfchlgdmnopaaDoor.QEv
set_option linter.unusedVariables false
set_option linter.unusedSimpArgs false
theorem joinSnoc (x y : List UInt8) (r : List (List UInt8)) (sep : List UInt8) : Go.Lib.join (x :: r ++ [y]) sep = Go.Lib.join (x :: r) sep ++ sep ++ y := by
  rw [List.cons_append, Go.Lib.join_cons, Go.Lib.join_cons]
  unfold Go.Lib.joinTail
  simp [List.append_assoc]
def txt (l : List UInt8) : ByteArray := ⟨l.toArray⟩
theorem txt_app (x y : List UInt8) : txt x ++ txt y = txt (x ++ y) := by
  apply ByteArray.ext
  simp [txt, ByteArray.data_append]
theorem txt_size (x : List UInt8) : (txt x).size = x.length := rfl
theorem rd_nat (l : List Int) (i : Nat) (h : i < l.length) : rd l (i : Int) = l[i] := getD_at l i 0 h
theorem joinDec (l : List Int) : (l.map decOf).map (·.data.toList) = l.map Go.Lib.itoa := by
  rw [List.map_map]
  rfl
theorem listLoop (l : List Int) (hn : l.length ≤ 60) (hb : ∀ x ∈ l, -1000000000000 ≤ x ∧ x ≤ 1000000000000) : ∀ (d i : Nat) (a : List UInt8), i + d = l.length → a = Go.Lib.join ((l.take i).map Go.Lib.itoa) [44] → a.length ≤ 22 * i →
    ∃ s, Ev (fun k => spec_l01List.l0 k l (txt a) (i : Int)) s ∧ Ev (fun k => impl_ListText.l0 k ((l.take i).map decOf) l (l.length : Int) (i : Int)) s ∧ s.size ≤ 1500 := by
  intro d
  induction d with
  | zero =>
    intro i a hi ha hl
    have ei : i = l.length := by omega
    subst ei
    rw [List.take_length] at ha ⊢
    refine ⟨txt a, Ev.succ ?_, Ev.succ ?_, by rw [txt_size]; omega⟩
    · simp only [spec_l01List.l0]
      exact Ev.neg (by omega) (Ev.now _)
    · simp only [impl_ListText.l0]
      refine Ev.neg (by omega) ?_
      have e : strings_Join.f (l.map decOf) (⟨#[44]⟩ : ByteArray) = some (txt a) := by
        have e2 : Go.Lib.join ((l.map decOf).map (·.data.toList)) (⟨#[44]⟩ : ByteArray).data.toList = a := by
          rw [joinDec, ha]
        unfold strings_Join.f
        rw [e2, if_pos ⟨by rw [List.length_map]; omega, by omega⟩]
        rfl
      rw [e]
      exact Ev.now _
  | succ d ih =>
    intro i a hi ha hl
    have hlt : i < l.length := by omega
    obtain ⟨b0, b1⟩ := hb (l[i]) (List.getElem_mem hlt)
    have er := rd_nat l i hlt
    have et : l.take (i + 1) = l.take i ++ [l[i]] := List.take_succ_eq_append_getElem hlt
    have hd := dec_spec (l[i]) (by omega) (by omega)
    have hi2 := dec_impl (l[i]) (by omega) (by omega)
    have hs := decOf_size (l[i]) (by omega) (by omega)
    have hs2 : (Go.Lib.itoa (l[i])).length ≤ 21 := hs
    have im : (l.take i).map decOf ++ [decOf (l[i])] = (l.take (i + 1)).map decOf := by rw [et, List.map_append]; rfl
    have ha8 : ((l.take i).map decOf).length < 8796093022208 := by rw [List.length_map, List.length_take]; omega
    have step : ∀ s, Ev (fun k => impl_ListText.l0 k ((l.take (i + 1)).map decOf) l (l.length : Int) ((i + 1 : Nat) : Int)) s → Ev (fun k => impl_ListText.l0 k ((l.take i).map decOf) l (l.length : Int) (i : Int)) s := by
      intro s h
      refine Ev.succ ?_
      simp only [impl_ListText.l0, er, hi2, impl_within_eq, Option.bind_some, wnat i (by omega), im]
      exact Ev.pos (by omega) (Ev.pos (by omega) (Ev.pos (by omega) (Ev.pos (decide_eq_true ⟨b0, b1⟩) (Ev.pos ha8 h))))
    have hz : (txt a).size ≤ 1500 := by rw [txt_size]; omega
    have z1 : (⟨#[44]⟩ : ByteArray).size = 1 := rfl
    by_cases c0 : i = 0
    · subst c0
      have e0 : a = [] := ha
      obtain ⟨s, h1, h2, h3⟩ := ih 1 (Go.Lib.itoa (l[0])) (by omega) (by rw [et]; simp [Go.Lib.join_one]) (by omega)
      refine ⟨s, Ev.succ ?_, step s h2, h3⟩
      have ej : txt a ++ decOf (l[0]) = txt (Go.Lib.itoa (l[0])) := by
        rw [e0]
        exact txt_app [] _
      simp only [spec_l01List.l0, er, wnat 0 (by omega)]
      refine Ev.pos (by omega) (Ev.neg (by omega) (Ev.pos (by omega) (Ev.bind hd (Ev.pos (by omega) ?_))))
      rw [ej]
      exact h1
    · have ej : a ++ [44] ++ Go.Lib.itoa (l[i]) = Go.Lib.join ((l.take (i + 1)).map Go.Lib.itoa) [44] := by
        rw [et, List.map_append, ha]
        obtain ⟨x, r, hx⟩ : ∃ x r, (l.take i).map Go.Lib.itoa = x :: r := by
          cases hc : (l.take i).map Go.Lib.itoa with
          | nil =>
            have := congrArg List.length hc
            rw [List.length_map, List.length_take, List.length_nil] at this
            omega
          | cons x r => exact ⟨x, r, rfl⟩
        rw [hx]
        exact (joinSnoc x _ r [44]).symm
      obtain ⟨s, h1, h2, h3⟩ := ih (i + 1) (a ++ [44] ++ Go.Lib.itoa (l[i])) (by omega) ej (by simp only [List.length_append, List.length_cons, List.length_nil]; omega)
      refine ⟨s, Ev.succ ?_, step s h2, h3⟩
      have eb : (txt a ++ (⟨#[44]⟩ : ByteArray)) ++ decOf (l[i]) = txt (a ++ [44] ++ Go.Lib.itoa (l[i])) := by
        rw [← txt_app, ← txt_app]
        rfl
      simp only [spec_l01List.l0, er, wnat i (by omega)]
      refine Ev.pos (by omega) (Ev.pos (by omega) (Ev.pos (by omega) (Ev.pos (by omega) (Ev.bind hd (Ev.pos (by rw [ByteArray.size_append]; omega) ?_)))))
      rw [eb]
      exact h1
theorem list_text (l : List Int) (h1 : 1 ≤ l.length) (hn : l.length ≤ 60) (hb : ∀ x ∈ l, -1000000000000 ≤ x ∧ x ≤ 1000000000000) : ∃ s, Ev (fun k => spec_l01List.f k l) s ∧ Ev (fun k => impl_ListText.f k l) s ∧ s.size ≤ 1500 := by
  obtain ⟨s, g1, g2, g3⟩ := listLoop l hn hb l.length 0 [] (by omega) rfl (by simp)
  refine ⟨s, ?_, ?_, g3⟩
  · simp only [spec_l01List.f]
    exact Ev.neg (by omega) g1
  · simp only [impl_ListText.f]
    exact Ev.neg (by omega) (Ev.neg (by omega) (Ev.pos (by omega) (Ev.pos (by omega) g2)))
theorem with_id (a : ByteArray) (ha : a.size ≤ 1048576) (l : List Int) (h1 : 1 ≤ l.length) (hn : l.length ≤ 60) (hb : ∀ x ∈ l, -1000000000000 ≤ x ∧ x ≤ 1000000000000) :
    ∃ s, Ev (fun k => spec_l01List.f k l) s ∧ s.size ≤ 1500 ∧ Ev (fun k => impl_withId.f k a l) ((a ++ (⟨#[32]⟩ : ByteArray)) ++ s) := by
  obtain ⟨s, g1, g2, g3⟩ := list_text l h1 hn hb
  have z1 : (⟨#[32]⟩ : ByteArray).size = 1 := rfl
  refine ⟨s, g1, g3, ?_⟩
  simp only [impl_withId.f]
  exact Ev.pos (by omega) (Ev.bind g2 (Ev.pos (by rw [ByteArray.size_append]; omega) (Ev.now _)))
end Go.Proofs.YtidfchlgdmnopaaDoor.QDutyText
