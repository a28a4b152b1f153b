/- FnExactReadingsText: the program's ReadingsText and the reference's return one and the same for all arguments, and the readings stay as they were. Conditions: none beyond the statement's own guard. -/
import Derived.Test.YtidfchlgdmnopaaDoorQReadingsTextx3
import Derived.Test.YtidfchlgdmnopaaDoorQReadingsTextx4
import Derived.Test.YtidfchlgdmnopaaDoorQReadingsTextx6
import Derived.Test.YtidfchlgdmnopaaDoorQReadingsTextx7
import Derived.Test.YtidfchlgdmnopaaDoorQReadingsTextxL
import Derived.Test.YtidfchlgdmnopaaDoorQReadingsTextxDReadOnly
import Derived.Test.YtidfchlgdmnopaaDoorQReadingsTextxDJoinText
namespace Go.Proofs.YtidfchlgdmnopaaDoor.Pure
open Go.RowKit Go.Proofs.YtidfchlgdmnopaaDoor.QReadingsText Go.Proofs.YtidfchlgdmnopaaDoorW.PrintWords Go.Proofs.YtidfchlgdmnopaaDoor.QOpen Go.Proofs.YtidfchlgdmnopaaDoor.QEv
set_option linter.unusedVariables false
set_option linter.unusedSimpArgs false
def pc (x : S108) : List UInt8 := Go.Lib.itoa x.f0 ++ [58] ++ Go.Lib.itoa x.f1
theorem pc_txt (x : S108) : (decOf x.f0 ++ (⟨#[58]⟩ : ByteArray)) ++ decOf x.f1 = txt (pc x) := by
  unfold pc
  rw [← txt_app, ← txt_app]
  rfl
theorem joinPc (l : List S108) : (l.map fun x => txt (pc x)).map (·.data.toList) = l.map pc := by
  rw [List.map_map]
  rfl
theorem readText (l : List S108) (hn : l.length ≤ 48) (hb : ∀ j, j < l.length → ReadOk l j) : ∀ (d i : Nat) (a : List UInt8), i + d = l.length → a = Go.Lib.join ((l.take i).map pc) [32] → a.length ≤ 45 * i →
    ∃ s, Ev (fun k => spec_l06Text.l0 k l (txt a) (i : Int)) s ∧ Ev (fun k => impl_ReadingsText.l0 k ((l.take i).map fun x => txt (pc x)) l (l.length : Int) (i : Int)) s := by
  intro d
  induction d with
  | zero =>
    intro i a hi ha hl
    have ei : i = l.length := by omega
    subst ei
    rw [List.take_length] at ha ⊢
    refine ⟨txt a, Ev.succ ?_, Ev.succ ?_⟩
    · simp only [spec_l06Text.l0]
      exact Ev.neg (by omega) (Ev.now _)
    · simp only [impl_ReadingsText.l0]
      refine Ev.neg (by omega) ?_
      have e : strings_Join.f (l.map fun x => txt (pc x)) (⟨#[32]⟩ : ByteArray) = some (txt a) := by
        have e2 : Go.Lib.join ((l.map fun x => txt (pc x)).map (·.data.toList)) (⟨#[32]⟩ : ByteArray).data.toList = a := by
          rw [joinPc, ha]
        unfold strings_Join.f
        rw [e2, if_pos ⟨by rw [List.length_map]; omega, by omega⟩]
        rfl
      rw [e]
      exact Ev.now _
  | succ d ih =>
    intro i a hi ha hl
    have hlt : i < l.length := by omega
    have ok := hb i hlt
    unfold ReadOk at ok
    obtain ⟨x, hx⟩ : ∃ x, x = l.getD i z108 := ⟨_, rfl⟩
    rw [← hx] at ok
    have er : rd_T108 l (i : Int) = x := hx.symm
    have et : l.take (i + 1) = l.take i ++ [x] := by
      rw [hx, getD_at l i _ hlt]
      exact List.take_succ_eq_append_getElem hlt
    have h0 := dec_spec x.f0 (by omega) (by omega)
    have h1 := dec_spec x.f1 (by omega) (by omega)
    have i0 := dec_impl x.f0 (by omega) (by omega)
    have i1 := dec_impl x.f1 (by omega) (by omega)
    have s0 := decOf_size x.f0 (by omega) (by omega)
    have s1 := decOf_size x.f1 (by omega) (by omega)
    have ps : (pc x).length ≤ 43 := by
      have a0 : (Go.Lib.itoa x.f0).length ≤ 21 := s0
      have a1 : (Go.Lib.itoa x.f1).length ≤ 21 := s1
      unfold pc
      simp only [List.length_append, List.length_cons, List.length_nil]
      omega
    have z58 : (⟨#[58]⟩ : ByteArray).size = 1 := rfl
    have z32 : (⟨#[32]⟩ : ByteArray).size = 1 := rfl
    have pz : (txt (pc x)).size ≤ 43 := ps
    have hz : (txt a).size ≤ 2200 := by rw [txt_size]; omega
    have im : (l.take i).map (fun x => txt (pc x)) ++ [txt (pc x)] = (l.take (i + 1)).map (fun x => txt (pc x)) := by rw [et, List.map_append]; rfl
    have ha8 : ((l.take i).map fun x => txt (pc x)).length < 8796093022208 := by rw [List.length_map, List.length_take]; omega
    have b1 : (decOf x.f0 ++ (⟨#[58]⟩ : ByteArray)).size + (decOf x.f1).size ≤ 9223372036854775807 := by rw [ByteArray.size_append]; omega
    have step : ∀ s, Ev (fun k => impl_ReadingsText.l0 k ((l.take (i + 1)).map fun x => txt (pc x)) l (l.length : Int) ((i + 1 : Nat) : Int)) s → Ev (fun k => impl_ReadingsText.l0 k ((l.take i).map fun x => txt (pc x)) l (l.length : Int) (i : Int)) s := by
      intro s h
      refine Ev.succ ?_
      simp only [impl_ReadingsText.l0, er, i0, i1, Option.bind_some, wnat i (by omega), pc_txt, im]
      exact Ev.pos (by omega) (Ev.pos (by omega) (Ev.pos (by omega) (Ev.pos (by omega) (Ev.pos b1 (Ev.pos ha8 h)))))
    by_cases c0 : i = 0
    · subst c0
      have e0 : a = [] := ha
      obtain ⟨s, g1, g2⟩ := ih 1 (pc x) (by omega) (by rw [et]; simp [Go.Lib.join_one]) (by omega)
      refine ⟨s, Ev.succ ?_, step s g2⟩
      have ej : txt a ++ txt (pc x) = txt (pc x) := by
        rw [e0]
        exact txt_app [] _
      simp only [spec_l06Text.l0, er, wnat 0 (by omega), pc_txt]
      refine Ev.pos (by omega) (Ev.neg (by omega) (Ev.pos (by omega) (Ev.bind h0 (Ev.pos (by omega) (Ev.bind h1 (Ev.pos b1 ?_))))))
      rw [pc_txt, ej]
      exact Ev.pos (by omega) g1
    · have ej : a ++ [32] ++ pc x = Go.Lib.join ((l.take (i + 1)).map pc) [32] := by
        rw [et, List.map_append, ha]
        obtain ⟨y, r, hy⟩ : ∃ y r, (l.take i).map pc = y :: r := by
          cases hc : (l.take i).map pc with
          | nil =>
            have := congrArg List.length hc
            rw [List.length_map, List.length_take, List.length_nil] at this
            omega
          | cons y r => exact ⟨y, r, rfl⟩
        rw [hy]
        exact (joinSnoc y _ r [32]).symm
      obtain ⟨s, g1, g2⟩ := ih (i + 1) (a ++ [32] ++ pc x) (by omega) ej (by simp only [List.length_append, List.length_cons, List.length_nil]; omega)
      refine ⟨s, Ev.succ ?_, step s g2⟩
      have eb : (txt a ++ (⟨#[32]⟩ : ByteArray)) ++ txt (pc x) = txt (a ++ [32] ++ pc x) := by
        rw [← txt_app, ← txt_app]
        rfl
      simp only [spec_l06Text.l0, er, wnat i (by omega)]
      refine Ev.pos (by omega) (Ev.pos (by omega) (Ev.pos (by omega) (Ev.pos (by omega) (Ev.bind h0 (Ev.pos (by omega) (Ev.bind h1 (Ev.pos b1 ?_)))))))
      rw [pc_txt, eb]
      exact Ev.pos (by rw [ByteArray.size_append]; omega) g1
theorem text_both (l : List S108) (hl : l.length ≤ 1048576) : ∃ s, Ev (fun k => spec_ReadingsText.f k l) s ∧ Ev (fun k => impl_ReadingsText.f k l) s := by
  obtain ⟨b, g1, g2, g3⟩ := reads_both l hl
  simp only [spec_ReadingsText.f, impl_ReadingsText.f]
  cases b with
  | false => exact ⟨_, Ev.bind g1 (Ev.neg (by decide) (Ev.now _)), Ev.bind g2 (Ev.neg (by decide) (Ev.now _))⟩
  | true =>
    obtain ⟨hn, hp⟩ := g3 rfl
    obtain ⟨s, h1, h2⟩ := readText l hn hp l.length 0 [] (by omega) rfl (by simp)
    refine ⟨s, Ev.bind g1 (Ev.pos rfl (Ev.bind (r := s) ?_ (Ev.now _))), Ev.bind g2 (Ev.pos rfl h2)⟩
    simp only [spec_l06Text.f]
    exact h1
theorem FnExactReadingsText : ∀ (x0 : List (S110)), (wfL wf110) x0 → ∃ k, laws_FnExactReadingsText.f k x0 = some true := by
  intro x0 hw0
  refine Ev.rounds (r := true) ?_
  simp only [laws_FnExactReadingsText.f]
  obtain ⟨t, ht, _, _, hs⟩ := laws_szReadingS_ev x0 1048576 hw0 (by omega) (by omega)
  refine Ev.bind ht ?_
  by_cases c : t < 0
  · exact Ev.pos c (Ev.now _)
  refine Ev.neg c ?_
  have sm := hs (by omega)
  have sm2 := smL_map cv110 cv110_sm sm
  have hto := laws_toReadingS_ev x0 sm
  have hn := sm2.1
  obtain ⟨s, h1, h2⟩ := text_both _ hn
  have q0 := laws_eqReadingS_refl (x0.map cv110) (by omega)
  exact Ev.bind hto (Ev.bind h1 (Ev.bind hto (Ev.bind h2 (Ev.pos rfl (Ev.bind hto (Ev.bind q0 (Ev.pos rfl (Ev.now _))))))))
end Go.Proofs.YtidfchlgdmnopaaDoor.Pure
