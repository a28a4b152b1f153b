-- Written by press.py, a program of this session, round the kit's print.py (functions and contracts; Lean checks them).
import Derived.Test.YtglhbjmagfchiaaQSharesx0
import Derived.Test.YtglhbjmagfchiaaQSharesx1
import Derived.Test.YtglhbjmagfchiaaQSharesx2
import Derived.Test.YtglhbjmagfchiaaQSharesx3
import Derived.Test.YtglhbjmagfchiaaQSharesx6
import Derived.Test.YtglhbjmagfchiaaQSharesx7
namespace Go.Proofs.Ytglhbjmagfchiaa.QShares
open Go.Proofs.Ytglhbjmagfchiaa.QWords
attribute [local go_sem high] binOp_string_geq_q binOp_string_leq_q binOp_string_gtr_q
open Go.RowKit Go.Proofs.YtglhbjmagfchiaaW.PrintWords Go.Proofs.YtglhbjmagfchiaaW.PrintLast Go.Proofs.YtglhbjmagfchiaaW.PrintMore
attribute [local go_sem] max2_int min2_int max_two min_two max_three min_three max_four min_four   -- for this text's walks alone
set_option linter.unusedVariables false
set_option linter.unusedSimpArgs false

/-! ### laws_FnShares: function 13 -/
mutual
def laws_FnShares.j0 : Nat → List Int → List Int → Bool → Option (Bool)
  | 0, _, _, _ => none
  | k + 1, x0, x1, x25 => if x25 = true then (some true) else ((spec_DrawDivideMoney.f k x0).bind fun bt381 => ((impl_DivideMoney.f k bt381.1 bt381.2).bind fun bt385 => (if bt385.2 = 0 then (if (bt385.1.length : Int) = (bt381.2.length : Int) then ((laws_b10Sum.f k bt385.1).bind fun t389 => (laws_FnShares.j1 k x1 bt381.2 bt385.1 (t389 != bt381.1))) else (laws_FnShares.j1 k x1 bt381.2 bt385.1 true)) else (laws_FnShares.j5 k x1))))
def laws_FnShares.j5 : Nat → List Int → Option (Bool)
  | 0, _ => none
  | k + 1, x1 => (spec_DrawLargestShare.f k x1).bind fun bt397 => ((impl_HeatBill.f k bt397.1 bt397.2.1 bt397.2.2).bind fun bt402 => ((impl_LargestShare.f k bt397.1 bt397.2.1 bt397.2.2).bind fun bt406 => (if bt402.2 = bt406.2.2 then (if bt402.2 = 0 then (if (bt402.1.length : Int) = (bt397.1.length : Int) then ((laws_b10Sum.f k bt402.1).bind fun t409 => (if t409 = bt397.2.1 then (if bt406.1 < 0 then (laws_FnShares.j6 k bt402.1 bt406.2.1 true) else (if bt406.1 ≥ (bt402.1.length : Int) then (laws_FnShares.j6 k bt402.1 bt406.2.1 true) else (if 0 ≤ bt406.1 then (if bt406.1 < (bt402.1.length : Int) then (laws_FnShares.j6 k bt402.1 bt406.2.1 ((rd bt402.1 bt406.1) != bt406.2.1)) else (none)) else (none)))) else (laws_FnShares.j6 k bt402.1 bt406.2.1 true))) else (laws_FnShares.j6 k bt402.1 bt406.2.1 true)) else (if (bt402.1.length : Int) = 0 then (if bt406.1 = 0 then (some (bt406.2.1 == 0)) else (some false)) else (some false))) else (some false))))
def laws_FnShares.j6 : Nat → List Int → Int → Bool → Option (Bool)
  | 0, _, _, _ => none
  | k + 1, x14, x17, x167 => if x167 = true then (some false) else (laws_FnShares.l2 k x14 x17 0)
def laws_FnShares.l2 : Nat → List Int → Int → Int → Option (Bool)
  | 0, _, _, _ => none
  | k + 1, x14, x17, x19 => if x19 < (x14.length : Int) then (if 0 ≤ x19 then (if (rd x14 x19) > x17 then (some false) else (if (rd x14 x19) < 0 then (some false) else (laws_FnShares.l2 k x14 x17 (wrap64 (x19 + 1))))) else (none)) else (some true)
def laws_FnShares.j1 : Nat → List Int → List Int → List Int → Bool → Option (Bool)
  | 0, _, _, _, _ => none
  | k + 1, x1, x6, x7, x49 => if x49 = true then (some false) else (laws_FnShares.l0 k x1 x6 x7 0)
def laws_FnShares.l0 : Nat → List Int → List Int → List Int → Int → Option (Bool)
  | 0, _, _, _, _ => none
  | k + 1, x1, x6, x7, x9 => if x9 < (x7.length : Int) then (if 0 ≤ x9 then (if (rd x7 x9) < 0 then (laws_FnShares.j3 k x1 x6 x7 x9 true) else (if x9 < (x6.length : Int) then (if (rd x6 x9) = 0 then (laws_FnShares.j3 k x1 x6 x7 x9 ((rd x7 x9) != 0)) else (laws_FnShares.j3 k x1 x6 x7 x9 false)) else (none))) else (none)) else (laws_FnShares.j5 k x1)
def laws_FnShares.j3 : Nat → List Int → List Int → List Int → Int → Bool → Option (Bool)
  | 0, _, _, _, _, _ => none
  | k + 1, x1, x6, x7, x9, x74 => if x74 = true then (some false) else (laws_FnShares.l1 k x1 x6 x7 x9 0)
def laws_FnShares.l1 : Nat → List Int → List Int → List Int → Int → Int → Option (Bool)
  | 0, _, _, _, _, _ => none
  | k + 1, x1, x6, x7, x9, x10 => if x10 < (x7.length : Int) then (if 0 ≤ x9 then (if x9 < (x6.length : Int) then (if 0 ≤ x10 then (if x10 < (x6.length : Int) then (if (rd x6 x9) ≥ (rd x6 x10) then (if x9 < (x7.length : Int) then (if (rd x7 x9) < (wrap64 ((rd x7 x10) - 1)) then (some false) else (laws_FnShares.l1 k x1 x6 x7 x9 (wrap64 (x10 + 1)))) else (none)) else (laws_FnShares.l1 k x1 x6 x7 x9 (wrap64 (x10 + 1)))) else (none)) else (none)) else (none)) else (none)) else (laws_FnShares.l0 k x1 x6 x7 (wrap64 (x9 + 1)))
end
def laws_FnShares.f (k : Nat) (l0 : List Int) (l1 : List Int) : Option (Bool) := (laws_b10Long.f l0).bind fun t379 => (if t379 = true then (laws_FnShares.j0 k l0 l1 true) else ((laws_b10Long.f l1).bind fun t380 => (laws_FnShares.j0 k l0 l1 t380)))
theorem laws_FnShares.mono_l : ∀ k, (∀ y0 y1 y2, LeO (laws_FnShares.j0 k y0 y1 y2) (laws_FnShares.j0 (k + 1) y0 y1 y2)) ∧ (∀ y0, LeO (laws_FnShares.j5 k y0) (laws_FnShares.j5 (k + 1) y0)) ∧ (∀ y0 y1 y2, LeO (laws_FnShares.j6 k y0 y1 y2) (laws_FnShares.j6 (k + 1) y0 y1 y2)) ∧ (∀ y0 y1 y2, LeO (laws_FnShares.l2 k y0 y1 y2) (laws_FnShares.l2 (k + 1) y0 y1 y2)) ∧ (∀ y0 y1 y2 y3, LeO (laws_FnShares.j1 k y0 y1 y2 y3) (laws_FnShares.j1 (k + 1) y0 y1 y2 y3)) ∧ (∀ y0 y1 y2 y3, LeO (laws_FnShares.l0 k y0 y1 y2 y3) (laws_FnShares.l0 (k + 1) y0 y1 y2 y3)) ∧ (∀ y0 y1 y2 y3 y4, LeO (laws_FnShares.j3 k y0 y1 y2 y3 y4) (laws_FnShares.j3 (k + 1) y0 y1 y2 y3 y4)) ∧ (∀ y0 y1 y2 y3 y4, LeO (laws_FnShares.l1 k y0 y1 y2 y3 y4) (laws_FnShares.l1 (k + 1) y0 y1 y2 y3 y4))
  | 0 => ⟨fun _ _ _ r h => by simp [laws_FnShares.j0] at h, fun _ r h => by simp [laws_FnShares.j5] at h, fun _ _ _ r h => by simp [laws_FnShares.j6] at h, fun _ _ _ r h => by simp [laws_FnShares.l2] at h, fun _ _ _ _ r h => by simp [laws_FnShares.j1] at h, fun _ _ _ _ r h => by simp [laws_FnShares.l0] at h, fun _ _ _ _ _ r h => by simp [laws_FnShares.j3] at h, fun _ _ _ _ _ r h => by simp [laws_FnShares.l1] at h⟩
  | k + 1 => by
    obtain ⟨ih0, ih1, ih2, ih3, ih4, ih5, ih6, ih7⟩ := laws_FnShares.mono_l k
    refine ⟨?_, ?_, ?_, ?_, ?_, ?_, ?_, ?_⟩
    · intro y0 y1 y2
      unfold laws_FnShares.j0
      repeat' first
      | (with_reducible exact ih0 _ _ _)
      | (with_reducible exact ih1 _)
      | (with_reducible exact ih2 _ _ _)
      | (with_reducible exact ih3 _ _ _)
      | (with_reducible exact ih4 _ _ _ _)
      | (with_reducible exact ih5 _ _ _ _)
      | (with_reducible exact ih6 _ _ _ _ _)
      | (with_reducible exact ih7 _ _ _ _ _)
      | (with_reducible exact impl_DivideMoney.mono _ _ _)
      | (with_reducible exact impl_HeatBill.mono _ _ _ _)
      | (with_reducible exact impl_LargestShare.mono _ _ _ _)
      | (with_reducible exact laws_b10Sum.mono _ _)
      | (with_reducible exact spec_DrawDivideMoney.mono _ _)
      | (with_reducible exact spec_DrawLargestShare.mono _ _)
      | (with_reducible exact LeO.refl _)
      | (with_reducible exact LeO.none _)
      | (with_reducible refine LeO.ite ?_ ?_)
      | (with_reducible refine LeO.bind ?_ (fun _ => ?_))
      | exact ih0 _ _ _
      | exact ih1 _
      | exact ih2 _ _ _
      | exact ih3 _ _ _
      | exact ih4 _ _ _ _
      | exact ih5 _ _ _ _
      | exact ih6 _ _ _ _ _
      | exact ih7 _ _ _ _ _
      | exact impl_DivideMoney.mono _ _ _
      | exact impl_HeatBill.mono _ _ _ _
      | exact impl_LargestShare.mono _ _ _ _
      | exact laws_b10Sum.mono _ _
      | exact spec_DrawDivideMoney.mono _ _
      | exact spec_DrawLargestShare.mono _ _
      | exact LeO.none _
      | refine LeO.ite ?_ ?_
      | refine LeO.bind ?_ (fun _ => ?_)
    · intro y0
      unfold laws_FnShares.j5
      repeat' first
      | (with_reducible exact ih0 _ _ _)
      | (with_reducible exact ih1 _)
      | (with_reducible exact ih2 _ _ _)
      | (with_reducible exact ih3 _ _ _)
      | (with_reducible exact ih4 _ _ _ _)
      | (with_reducible exact ih5 _ _ _ _)
      | (with_reducible exact ih6 _ _ _ _ _)
      | (with_reducible exact ih7 _ _ _ _ _)
      | (with_reducible exact impl_DivideMoney.mono _ _ _)
      | (with_reducible exact impl_HeatBill.mono _ _ _ _)
      | (with_reducible exact impl_LargestShare.mono _ _ _ _)
      | (with_reducible exact laws_b10Sum.mono _ _)
      | (with_reducible exact spec_DrawDivideMoney.mono _ _)
      | (with_reducible exact spec_DrawLargestShare.mono _ _)
      | (with_reducible exact LeO.refl _)
      | (with_reducible exact LeO.none _)
      | (with_reducible refine LeO.ite ?_ ?_)
      | (with_reducible refine LeO.bind ?_ (fun _ => ?_))
      | exact ih0 _ _ _
      | exact ih1 _
      | exact ih2 _ _ _
      | exact ih3 _ _ _
      | exact ih4 _ _ _ _
      | exact ih5 _ _ _ _
      | exact ih6 _ _ _ _ _
      | exact ih7 _ _ _ _ _
      | exact impl_DivideMoney.mono _ _ _
      | exact impl_HeatBill.mono _ _ _ _
      | exact impl_LargestShare.mono _ _ _ _
      | exact laws_b10Sum.mono _ _
      | exact spec_DrawDivideMoney.mono _ _
      | exact spec_DrawLargestShare.mono _ _
      | exact LeO.none _
      | refine LeO.ite ?_ ?_
      | refine LeO.bind ?_ (fun _ => ?_)
    · intro y0 y1 y2
      unfold laws_FnShares.j6
      repeat' first
      | (with_reducible exact ih0 _ _ _)
      | (with_reducible exact ih1 _)
      | (with_reducible exact ih2 _ _ _)
      | (with_reducible exact ih3 _ _ _)
      | (with_reducible exact ih4 _ _ _ _)
      | (with_reducible exact ih5 _ _ _ _)
      | (with_reducible exact ih6 _ _ _ _ _)
      | (with_reducible exact ih7 _ _ _ _ _)
      | (with_reducible exact impl_DivideMoney.mono _ _ _)
      | (with_reducible exact impl_HeatBill.mono _ _ _ _)
      | (with_reducible exact impl_LargestShare.mono _ _ _ _)
      | (with_reducible exact laws_b10Sum.mono _ _)
      | (with_reducible exact spec_DrawDivideMoney.mono _ _)
      | (with_reducible exact spec_DrawLargestShare.mono _ _)
      | (with_reducible exact LeO.refl _)
      | (with_reducible exact LeO.none _)
      | (with_reducible refine LeO.ite ?_ ?_)
      | (with_reducible refine LeO.bind ?_ (fun _ => ?_))
      | exact ih0 _ _ _
      | exact ih1 _
      | exact ih2 _ _ _
      | exact ih3 _ _ _
      | exact ih4 _ _ _ _
      | exact ih5 _ _ _ _
      | exact ih6 _ _ _ _ _
      | exact ih7 _ _ _ _ _
      | exact impl_DivideMoney.mono _ _ _
      | exact impl_HeatBill.mono _ _ _ _
      | exact impl_LargestShare.mono _ _ _ _
      | exact laws_b10Sum.mono _ _
      | exact spec_DrawDivideMoney.mono _ _
      | exact spec_DrawLargestShare.mono _ _
      | exact LeO.none _
      | refine LeO.ite ?_ ?_
      | refine LeO.bind ?_ (fun _ => ?_)
    · intro y0 y1 y2
      unfold laws_FnShares.l2
      repeat' first
      | (with_reducible exact ih0 _ _ _)
      | (with_reducible exact ih1 _)
      | (with_reducible exact ih2 _ _ _)
      | (with_reducible exact ih3 _ _ _)
      | (with_reducible exact ih4 _ _ _ _)
      | (with_reducible exact ih5 _ _ _ _)
      | (with_reducible exact ih6 _ _ _ _ _)
      | (with_reducible exact ih7 _ _ _ _ _)
      | (with_reducible exact impl_DivideMoney.mono _ _ _)
      | (with_reducible exact impl_HeatBill.mono _ _ _ _)
      | (with_reducible exact impl_LargestShare.mono _ _ _ _)
      | (with_reducible exact laws_b10Sum.mono _ _)
      | (with_reducible exact spec_DrawDivideMoney.mono _ _)
      | (with_reducible exact spec_DrawLargestShare.mono _ _)
      | (with_reducible exact LeO.refl _)
      | (with_reducible exact LeO.none _)
      | (with_reducible refine LeO.ite ?_ ?_)
      | (with_reducible refine LeO.bind ?_ (fun _ => ?_))
      | exact ih0 _ _ _
      | exact ih1 _
      | exact ih2 _ _ _
      | exact ih3 _ _ _
      | exact ih4 _ _ _ _
      | exact ih5 _ _ _ _
      | exact ih6 _ _ _ _ _
      | exact ih7 _ _ _ _ _
      | exact impl_DivideMoney.mono _ _ _
      | exact impl_HeatBill.mono _ _ _ _
      | exact impl_LargestShare.mono _ _ _ _
      | exact laws_b10Sum.mono _ _
      | exact spec_DrawDivideMoney.mono _ _
      | exact spec_DrawLargestShare.mono _ _
      | exact LeO.none _
      | refine LeO.ite ?_ ?_
      | refine LeO.bind ?_ (fun _ => ?_)
    · intro y0 y1 y2 y3
      unfold laws_FnShares.j1
      repeat' first
      | (with_reducible exact ih0 _ _ _)
      | (with_reducible exact ih1 _)
      | (with_reducible exact ih2 _ _ _)
      | (with_reducible exact ih3 _ _ _)
      | (with_reducible exact ih4 _ _ _ _)
      | (with_reducible exact ih5 _ _ _ _)
      | (with_reducible exact ih6 _ _ _ _ _)
      | (with_reducible exact ih7 _ _ _ _ _)
      | (with_reducible exact impl_DivideMoney.mono _ _ _)
      | (with_reducible exact impl_HeatBill.mono _ _ _ _)
      | (with_reducible exact impl_LargestShare.mono _ _ _ _)
      | (with_reducible exact laws_b10Sum.mono _ _)
      | (with_reducible exact spec_DrawDivideMoney.mono _ _)
      | (with_reducible exact spec_DrawLargestShare.mono _ _)
      | (with_reducible exact LeO.refl _)
      | (with_reducible exact LeO.none _)
      | (with_reducible refine LeO.ite ?_ ?_)
      | (with_reducible refine LeO.bind ?_ (fun _ => ?_))
      | exact ih0 _ _ _
      | exact ih1 _
      | exact ih2 _ _ _
      | exact ih3 _ _ _
      | exact ih4 _ _ _ _
      | exact ih5 _ _ _ _
      | exact ih6 _ _ _ _ _
      | exact ih7 _ _ _ _ _
      | exact impl_DivideMoney.mono _ _ _
      | exact impl_HeatBill.mono _ _ _ _
      | exact impl_LargestShare.mono _ _ _ _
      | exact laws_b10Sum.mono _ _
      | exact spec_DrawDivideMoney.mono _ _
      | exact spec_DrawLargestShare.mono _ _
      | exact LeO.none _
      | refine LeO.ite ?_ ?_
      | refine LeO.bind ?_ (fun _ => ?_)
    · intro y0 y1 y2 y3
      unfold laws_FnShares.l0
      repeat' first
      | (with_reducible exact ih0 _ _ _)
      | (with_reducible exact ih1 _)
      | (with_reducible exact ih2 _ _ _)
      | (with_reducible exact ih3 _ _ _)
      | (with_reducible exact ih4 _ _ _ _)
      | (with_reducible exact ih5 _ _ _ _)
      | (with_reducible exact ih6 _ _ _ _ _)
      | (with_reducible exact ih7 _ _ _ _ _)
      | (with_reducible exact impl_DivideMoney.mono _ _ _)
      | (with_reducible exact impl_HeatBill.mono _ _ _ _)
      | (with_reducible exact impl_LargestShare.mono _ _ _ _)
      | (with_reducible exact laws_b10Sum.mono _ _)
      | (with_reducible exact spec_DrawDivideMoney.mono _ _)
      | (with_reducible exact spec_DrawLargestShare.mono _ _)
      | (with_reducible exact LeO.refl _)
      | (with_reducible exact LeO.none _)
      | (with_reducible refine LeO.ite ?_ ?_)
      | (with_reducible refine LeO.bind ?_ (fun _ => ?_))
      | exact ih0 _ _ _
      | exact ih1 _
      | exact ih2 _ _ _
      | exact ih3 _ _ _
      | exact ih4 _ _ _ _
      | exact ih5 _ _ _ _
      | exact ih6 _ _ _ _ _
      | exact ih7 _ _ _ _ _
      | exact impl_DivideMoney.mono _ _ _
      | exact impl_HeatBill.mono _ _ _ _
      | exact impl_LargestShare.mono _ _ _ _
      | exact laws_b10Sum.mono _ _
      | exact spec_DrawDivideMoney.mono _ _
      | exact spec_DrawLargestShare.mono _ _
      | exact LeO.none _
      | refine LeO.ite ?_ ?_
      | refine LeO.bind ?_ (fun _ => ?_)
    · intro y0 y1 y2 y3 y4
      unfold laws_FnShares.j3
      repeat' first
      | (with_reducible exact ih0 _ _ _)
      | (with_reducible exact ih1 _)
      | (with_reducible exact ih2 _ _ _)
      | (with_reducible exact ih3 _ _ _)
      | (with_reducible exact ih4 _ _ _ _)
      | (with_reducible exact ih5 _ _ _ _)
      | (with_reducible exact ih6 _ _ _ _ _)
      | (with_reducible exact ih7 _ _ _ _ _)
      | (with_reducible exact impl_DivideMoney.mono _ _ _)
      | (with_reducible exact impl_HeatBill.mono _ _ _ _)
      | (with_reducible exact impl_LargestShare.mono _ _ _ _)
      | (with_reducible exact laws_b10Sum.mono _ _)
      | (with_reducible exact spec_DrawDivideMoney.mono _ _)
      | (with_reducible exact spec_DrawLargestShare.mono _ _)
      | (with_reducible exact LeO.refl _)
      | (with_reducible exact LeO.none _)
      | (with_reducible refine LeO.ite ?_ ?_)
      | (with_reducible refine LeO.bind ?_ (fun _ => ?_))
      | exact ih0 _ _ _
      | exact ih1 _
      | exact ih2 _ _ _
      | exact ih3 _ _ _
      | exact ih4 _ _ _ _
      | exact ih5 _ _ _ _
      | exact ih6 _ _ _ _ _
      | exact ih7 _ _ _ _ _
      | exact impl_DivideMoney.mono _ _ _
      | exact impl_HeatBill.mono _ _ _ _
      | exact impl_LargestShare.mono _ _ _ _
      | exact laws_b10Sum.mono _ _
      | exact spec_DrawDivideMoney.mono _ _
      | exact spec_DrawLargestShare.mono _ _
      | exact LeO.none _
      | refine LeO.ite ?_ ?_
      | refine LeO.bind ?_ (fun _ => ?_)
    · intro y0 y1 y2 y3 y4
      unfold laws_FnShares.l1
      repeat' first
      | (with_reducible exact ih0 _ _ _)
      | (with_reducible exact ih1 _)
      | (with_reducible exact ih2 _ _ _)
      | (with_reducible exact ih3 _ _ _)
      | (with_reducible exact ih4 _ _ _ _)
      | (with_reducible exact ih5 _ _ _ _)
      | (with_reducible exact ih6 _ _ _ _ _)
      | (with_reducible exact ih7 _ _ _ _ _)
      | (with_reducible exact impl_DivideMoney.mono _ _ _)
      | (with_reducible exact impl_HeatBill.mono _ _ _ _)
      | (with_reducible exact impl_LargestShare.mono _ _ _ _)
      | (with_reducible exact laws_b10Sum.mono _ _)
      | (with_reducible exact spec_DrawDivideMoney.mono _ _)
      | (with_reducible exact spec_DrawLargestShare.mono _ _)
      | (with_reducible exact LeO.refl _)
      | (with_reducible exact LeO.none _)
      | (with_reducible refine LeO.ite ?_ ?_)
      | (with_reducible refine LeO.bind ?_ (fun _ => ?_))
      | exact ih0 _ _ _
      | exact ih1 _
      | exact ih2 _ _ _
      | exact ih3 _ _ _
      | exact ih4 _ _ _ _
      | exact ih5 _ _ _ _
      | exact ih6 _ _ _ _ _
      | exact ih7 _ _ _ _ _
      | exact impl_DivideMoney.mono _ _ _
      | exact impl_HeatBill.mono _ _ _ _
      | exact impl_LargestShare.mono _ _ _ _
      | exact laws_b10Sum.mono _ _
      | exact spec_DrawDivideMoney.mono _ _
      | exact spec_DrawLargestShare.mono _ _
      | exact LeO.none _
      | refine LeO.ite ?_ ?_
      | refine LeO.bind ?_ (fun _ => ?_)
theorem laws_FnShares.mono : ∀ a0 a1 k, LeO (laws_FnShares.f k a0 a1) (laws_FnShares.f (k + 1) a0 a1) := by
  intro a0 a1 k
  obtain ⟨ih0, ih1, ih2, ih3, ih4, ih5, ih6, ih7⟩ := laws_FnShares.mono_l k
  unfold laws_FnShares.f
  repeat' first
      | (with_reducible exact ih0 _ _ _)
      | (with_reducible exact ih1 _)
      | (with_reducible exact ih2 _ _ _)
      | (with_reducible exact ih3 _ _ _)
      | (with_reducible exact ih4 _ _ _ _)
      | (with_reducible exact ih5 _ _ _ _)
      | (with_reducible exact ih6 _ _ _ _ _)
      | (with_reducible exact ih7 _ _ _ _ _)
      | (with_reducible exact impl_DivideMoney.mono _ _ _)
      | (with_reducible exact impl_HeatBill.mono _ _ _ _)
      | (with_reducible exact impl_LargestShare.mono _ _ _ _)
      | (with_reducible exact laws_b10Sum.mono _ _)
      | (with_reducible exact spec_DrawDivideMoney.mono _ _)
      | (with_reducible exact spec_DrawLargestShare.mono _ _)
      | (with_reducible exact LeO.refl _)
      | (with_reducible exact LeO.none _)
      | (with_reducible refine LeO.ite ?_ ?_)
      | (with_reducible refine LeO.bind ?_ (fun _ => ?_))
      | exact ih0 _ _ _
      | exact ih1 _
      | exact ih2 _ _ _
      | exact ih3 _ _ _
      | exact ih4 _ _ _ _
      | exact ih5 _ _ _ _
      | exact ih6 _ _ _ _ _
      | exact ih7 _ _ _ _ _
      | exact impl_DivideMoney.mono _ _ _
      | exact impl_HeatBill.mono _ _ _ _
      | exact impl_LargestShare.mono _ _ _ _
      | exact laws_b10Sum.mono _ _
      | exact spec_DrawDivideMoney.mono _ _
      | exact spec_DrawLargestShare.mono _ _
      | exact LeO.none _
      | refine LeO.ite ?_ ?_
      | refine LeO.bind ?_ (fun _ => ?_)
set_option maxHeartbeats 8000000 in
set_option maxRecDepth 100000 in
theorem laws_FnShares.calls (k : Nat) (A0 : Option Addr) (c0 : Nat) (l0 : List Int) (A1 : Option Addr) (c1 : Nat) (l1 : List Int) (r : Bool) (w : World) (hr0 : Kd.C (Kd.int .u8) w A0 l0.length l0) (hc0 : l0.length ≤ c0) (hr1 : Kd.C (Kd.int .u8) w A1 l1.length l1) (hc1 : l1.length ≤ c1) (h : laws_FnShares.f k l0 l1 = some r) :
    Calls Try.prog 13 #[.slice A0 l0.length c0, .slice A1 l1.length c1] w fun e w' => e = .returned (.bool r) ∧ Below w.heap.size w w' := by
  have HR0 := Aside0.mk hr0
  have HC0 := Aside0.mk hc0
  clear hr0 hc0
  have HR1 := Aside0.mk hr1
  have HC1 := Aside0.mk hc1
  clear hr1 hc1
  have HB := Aside0.mk (Below.refl w.heap.size w)
  have H : ((laws_b10Long.f l0).bind fun t379 => (if t379 = true then (laws_FnShares.j0 k l0 l1 true) else ((laws_b10Long.f l1).bind fun t380 => (laws_FnShares.j0 k l0 l1 t380)))) = some r := h
  clear h
  have HC3 := Aside0.mk H
  clear H
  go_enter Try.func13, Try.ntmps13
  go_upto_region 1 with (fail)
  repeat (go_quiet (fail); go_upto_region 1 with (fail))
  go_cut [25] (fun v25 wc => ∃ (kq : Nat) (x25_2 : Bool), v25 = .bool x25_2 ∧ Aside0 (laws_FnShares.j0 kq l0 l1 x25_2 = some r) ∧ Aside0 (kq ≤ k) ∧ Aside0 (Below w.heap.size w wc))
  case first =>
    have H := HC3.out
    clear HC3
    replace H := Option.bind_eq_some_iff.mp H
    obtain ⟨t379, A40, H⟩ := H
    replace H : (if t379 = true then (laws_FnShares.j0 k l0 l1 true) else ((laws_b10Long.f l1).bind fun t380 => (laws_FnShares.j0 k l0 l1 t380))) = some r := H
    have A4 := Aside0.mk A40
    clear A40
    by_cases c5 : t379 = true
    · subst c5
      have H1 : (laws_FnShares.j0 k l0 l1 true) = some r := by rw [if_pos rfl] at H; exact H
      clear H
      have H := H1
      clear H1
      have H' := Aside0.mk H
      clear H
      go_wp2_with (first | (go_at_call 75; (first | (with_reducible refine (laws_b10Long.calls _ _ l0 true _ ?side1 ?side2 A4.out).mono ?_) | ((try simp only [Go.IntWalk.i64_left]); (with_reducible refine (laws_b10Long.calls _ _ l0 true _ ?side1 ?side2 A4.out).mono ?_))); (case side1 => repeat (first | exact (Kd.C_below HR0.out HB.out) | (with_reducible refine Kd.C_alloc ?_ _) | (with_reducible refine Kd.C_drewN ?_ _) | (with_reducible refine Kd.C_drew ?_))); (case side2 => exact HC0.out); rintro e w' ⟨rfl, ⟨nd, rfl⟩⟩; (try first | exact ⟨rfl, _, World.drewN_drewN _ _ _⟩ | exact ⟨rfl, _, Eq.trans (World.drewN_drewN _ _ _) (congrArg (World.drewN _) (Nat.add_assoc _ _ _))⟩)))
      repeat (go_quiet (first | (go_at_call 75; (first | (with_reducible refine (laws_b10Long.calls _ _ l0 true _ ?side1 ?side2 A4.out).mono ?_) | ((try simp only [Go.IntWalk.i64_left]); (with_reducible refine (laws_b10Long.calls _ _ l0 true _ ?side1 ?side2 A4.out).mono ?_))); (case side1 => repeat (first | exact (Kd.C_below HR0.out HB.out) | (with_reducible refine Kd.C_alloc ?_ _) | (with_reducible refine Kd.C_drewN ?_ _) | (with_reducible refine Kd.C_drew ?_))); (case side2 => exact HC0.out); rintro e w' ⟨rfl, ⟨nd, rfl⟩⟩; (try first | exact ⟨rfl, _, World.drewN_drewN _ _ _⟩ | exact ⟨rfl, _, Eq.trans (World.drewN_drewN _ _ _) (congrArg (World.drewN _) (Nat.add_assoc _ _ _))⟩))); try go_wp2_with (first | (go_at_call 75; (first | (with_reducible refine (laws_b10Long.calls _ _ l0 true _ ?side1 ?side2 A4.out).mono ?_) | ((try simp only [Go.IntWalk.i64_left]); (with_reducible refine (laws_b10Long.calls _ _ l0 true _ ?side1 ?side2 A4.out).mono ?_))); (case side1 => repeat (first | exact (Kd.C_below HR0.out HB.out) | (with_reducible refine Kd.C_alloc ?_ _) | (with_reducible refine Kd.C_drewN ?_ _) | (with_reducible refine Kd.C_drew ?_))); (case side2 => exact HC0.out); rintro e w' ⟨rfl, ⟨nd, rfl⟩⟩; (try first | exact ⟨rfl, _, World.drewN_drewN _ _ _⟩ | exact ⟨rfl, _, Eq.trans (World.drewN_drewN _ _ _) (congrArg (World.drewN _) (Nat.add_assoc _ _ _))⟩))))
      go_meet
      case rel => exact ⟨_, (true), (by first | rfl | (simp; done) | (simp [*]; done)), H', ⟨by first | omega | exact Nat.le_refl _⟩, ⟨by repeat (first | (with_reducible first | exact HB.out | apply below_alloc | apply pw_below_drewN | apply below_drew1) | exact HB.out)⟩⟩
    · replace c5 := Bool.eq_false_iff.mpr c5
      subst c5
      have H1 : ((laws_b10Long.f l1).bind fun t380 => (laws_FnShares.j0 k l0 l1 t380)) = some r := by rw [if_neg (show ¬ (false = true) by decide)] at H; exact H
      clear H
      have H := H1
      clear H1
      replace H := Option.bind_eq_some_iff.mp H
      obtain ⟨t380, A60, H⟩ := H
      replace H : (laws_FnShares.j0 k l0 l1 t380) = some r := H
      have A6 := Aside0.mk A60
      clear A60
      have H' := Aside0.mk H
      clear H
      go_wp2_with (first | (go_at_call 75; (first | (with_reducible refine (laws_b10Long.calls _ _ l0 false _ ?side1 ?side2 A4.out).mono ?_) | ((try simp only [Go.IntWalk.i64_left]); (with_reducible refine (laws_b10Long.calls _ _ l0 false _ ?side1 ?side2 A4.out).mono ?_))); (case side1 => repeat (first | exact (Kd.C_below HR0.out HB.out) | (with_reducible refine Kd.C_alloc ?_ _) | (with_reducible refine Kd.C_drewN ?_ _) | (with_reducible refine Kd.C_drew ?_))); (case side2 => exact HC0.out); rintro e w' ⟨rfl, ⟨nd, rfl⟩⟩; (try first | exact ⟨rfl, _, World.drewN_drewN _ _ _⟩ | exact ⟨rfl, _, Eq.trans (World.drewN_drewN _ _ _) (congrArg (World.drewN _) (Nat.add_assoc _ _ _))⟩)) | (go_at_call 75; (first | (with_reducible refine (laws_b10Long.calls _ _ l1 t380 _ ?side1 ?side2 A6.out).mono ?_) | ((try simp only [Go.IntWalk.i64_left]); (with_reducible refine (laws_b10Long.calls _ _ l1 t380 _ ?side1 ?side2 A6.out).mono ?_))); (case side1 => repeat (first | exact (Kd.C_below HR1.out (by repeat (first | (with_reducible first | exact HB.out | apply below_alloc | apply pw_below_drewN | apply below_drew1) | exact HB.out))) | (with_reducible refine Kd.C_alloc ?_ _) | (with_reducible refine Kd.C_drewN ?_ _) | (with_reducible refine Kd.C_drew ?_))); (case side2 => exact HC1.out); rintro e w' ⟨rfl, ⟨nd, rfl⟩⟩; (try first | exact ⟨rfl, _, World.drewN_drewN _ _ _⟩ | exact ⟨rfl, _, Eq.trans (World.drewN_drewN _ _ _) (congrArg (World.drewN _) (Nat.add_assoc _ _ _))⟩)))
      repeat (go_quiet (first | (go_at_call 75; (first | (with_reducible refine (laws_b10Long.calls _ _ l0 false _ ?side1 ?side2 A4.out).mono ?_) | ((try simp only [Go.IntWalk.i64_left]); (with_reducible refine (laws_b10Long.calls _ _ l0 false _ ?side1 ?side2 A4.out).mono ?_))); (case side1 => repeat (first | exact (Kd.C_below HR0.out HB.out) | (with_reducible refine Kd.C_alloc ?_ _) | (with_reducible refine Kd.C_drewN ?_ _) | (with_reducible refine Kd.C_drew ?_))); (case side2 => exact HC0.out); rintro e w' ⟨rfl, ⟨nd, rfl⟩⟩; (try first | exact ⟨rfl, _, World.drewN_drewN _ _ _⟩ | exact ⟨rfl, _, Eq.trans (World.drewN_drewN _ _ _) (congrArg (World.drewN _) (Nat.add_assoc _ _ _))⟩)) | (go_at_call 75; (first | (with_reducible refine (laws_b10Long.calls _ _ l1 t380 _ ?side1 ?side2 A6.out).mono ?_) | ((try simp only [Go.IntWalk.i64_left]); (with_reducible refine (laws_b10Long.calls _ _ l1 t380 _ ?side1 ?side2 A6.out).mono ?_))); (case side1 => repeat (first | exact (Kd.C_below HR1.out (by repeat (first | (with_reducible first | exact HB.out | apply below_alloc | apply pw_below_drewN | apply below_drew1) | exact HB.out))) | (with_reducible refine Kd.C_alloc ?_ _) | (with_reducible refine Kd.C_drewN ?_ _) | (with_reducible refine Kd.C_drew ?_))); (case side2 => exact HC1.out); rintro e w' ⟨rfl, ⟨nd, rfl⟩⟩; (try first | exact ⟨rfl, _, World.drewN_drewN _ _ _⟩ | exact ⟨rfl, _, Eq.trans (World.drewN_drewN _ _ _) (congrArg (World.drewN _) (Nat.add_assoc _ _ _))⟩))); try go_wp2_with (first | (go_at_call 75; (first | (with_reducible refine (laws_b10Long.calls _ _ l0 false _ ?side1 ?side2 A4.out).mono ?_) | ((try simp only [Go.IntWalk.i64_left]); (with_reducible refine (laws_b10Long.calls _ _ l0 false _ ?side1 ?side2 A4.out).mono ?_))); (case side1 => repeat (first | exact (Kd.C_below HR0.out HB.out) | (with_reducible refine Kd.C_alloc ?_ _) | (with_reducible refine Kd.C_drewN ?_ _) | (with_reducible refine Kd.C_drew ?_))); (case side2 => exact HC0.out); rintro e w' ⟨rfl, ⟨nd, rfl⟩⟩; (try first | exact ⟨rfl, _, World.drewN_drewN _ _ _⟩ | exact ⟨rfl, _, Eq.trans (World.drewN_drewN _ _ _) (congrArg (World.drewN _) (Nat.add_assoc _ _ _))⟩)) | (go_at_call 75; (first | (with_reducible refine (laws_b10Long.calls _ _ l1 t380 _ ?side1 ?side2 A6.out).mono ?_) | ((try simp only [Go.IntWalk.i64_left]); (with_reducible refine (laws_b10Long.calls _ _ l1 t380 _ ?side1 ?side2 A6.out).mono ?_))); (case side1 => repeat (first | exact (Kd.C_below HR1.out (by repeat (first | (with_reducible first | exact HB.out | apply below_alloc | apply pw_below_drewN | apply below_drew1) | exact HB.out))) | (with_reducible refine Kd.C_alloc ?_ _) | (with_reducible refine Kd.C_drewN ?_ _) | (with_reducible refine Kd.C_drew ?_))); (case side2 => exact HC1.out); rintro e w' ⟨rfl, ⟨nd, rfl⟩⟩; (try first | exact ⟨rfl, _, World.drewN_drewN _ _ _⟩ | exact ⟨rfl, _, Eq.trans (World.drewN_drewN _ _ _) (congrArg (World.drewN _) (Nat.add_assoc _ _ _))⟩))))
      go_meet
      case rel => exact ⟨_, (t380), (by first | rfl | (simp; done) | (simp [*]; done)), H', ⟨by first | omega | exact Nat.le_refl _⟩, ⟨by repeat (first | (with_reducible first | exact HB.out | apply below_alloc | apply pw_below_drewN | apply below_drew1) | exact HB.out)⟩⟩
  case rest =>
    clear HC3
    try clear c1
    try clear p2
    try clear c5
    obtain ⟨kq, x25_2, rfl, HA, HJ2, HB⟩ := hcut
    cases kq with
    | zero => exact absurd HA.out (by simp [laws_FnShares.j0])
    | succ kj2 =>
      have H := HA.out
      clear HA
      simp only [laws_FnShares.j0] at H
      by_cases c7 : x25_2 = true
      · subst c7
        have H1 : (some true) = some r := by rw [if_pos rfl] at H; exact H
        clear H
        have H := H1
        clear H1
        obtain rfl := Option.some.inj H
        go_wp2
        repeat (go_quiet (fail); try go_wp2)
        go_ret
        exact ⟨by first | rfl | (simp [errW_none, errW_some] <;> rfl) | (simp [*, errW_none, errW_some] <;> rfl), by repeat (first | (with_reducible first | exact HB.out | apply below_alloc | apply pw_below_drewN | apply below_drew1) | exact HB.out)⟩
      · as_aux_lemma =>
        replace c7 := Bool.eq_false_iff.mpr c7
        subst c7
        have H1 : ((spec_DrawDivideMoney.f kj2 l0).bind fun bt381 => ((impl_DivideMoney.f kj2 bt381.1 bt381.2).bind fun bt385 => (if bt385.2 = 0 then (if (bt385.1.length : Int) = (bt381.2.length : Int) then ((laws_b10Sum.f kj2 bt385.1).bind fun t389 => (laws_FnShares.j1 kj2 l1 bt381.2 bt385.1 (t389 != bt381.1))) else (laws_FnShares.j1 kj2 l1 bt381.2 bt385.1 true)) else (laws_FnShares.j5 kj2 l1)))) = some r := by rw [if_neg (show ¬ (false = true) by decide)] at H; exact H
        clear H
        have H := H1
        clear H1
        replace H := Option.bind_eq_some_iff.mp H
        obtain ⟨⟨t381, t382⟩, A80, H⟩ := H
        replace H : ((impl_DivideMoney.f kj2 t381 t382).bind fun bt385 => (if bt385.2 = 0 then (if (bt385.1.length : Int) = (t382.length : Int) then ((laws_b10Sum.f kj2 bt385.1).bind fun t389 => (laws_FnShares.j1 kj2 l1 t382 bt385.1 (t389 != t381))) else (laws_FnShares.j1 kj2 l1 t382 bt385.1 true)) else (laws_FnShares.j5 kj2 l1))) = some r := H
        have A8 := Aside0.mk A80
        clear A80
        replace H := Option.bind_eq_some_iff.mp H
        obtain ⟨⟨t385, t386⟩, A90, H⟩ := H
        replace H : (if t386 = 0 then (if (t385.length : Int) = (t382.length : Int) then ((laws_b10Sum.f kj2 t385).bind fun t389 => (laws_FnShares.j1 kj2 l1 t382 t385 (t389 != t381))) else (laws_FnShares.j1 kj2 l1 t382 t385 true)) else (laws_FnShares.j5 kj2 l1)) = some r := H
        have A9 := Aside0.mk A90
        clear A90
        have HC10 := Aside0.mk H
        clear H
        go_upto_if 38 with (first | (go_at_call 76; (with_reducible refine (spec_DrawDivideMoney.calls kj2 _ _ l0 t381 t382 _ ?side1 ?side2 A8.out).mono ?_); (case side1 => repeat (first | exact (Kd.C_below HR0.out HB.out) | (with_reducible refine Kd.C_alloc ?_ _) | (with_reducible refine Kd.C_drewN ?_ _) | (with_reducible refine Kd.C_drew ?_))); (case side2 => exact HC0.out); rintro e w11 ⟨v383, rfl, ho0, hb⟩; have n0_ := Aside0.mk (Kd.R_lower ho0 (below_size (by repeat (first | (with_reducible first | exact HB.out | apply below_alloc | apply pw_below_drewN | apply below_drew1) | exact HB.out)))); have n1_ := Aside0.mk (below_step (by repeat (first | (with_reducible first | exact HB.out | apply below_alloc | apply pw_below_drewN | apply below_drew1) | exact HB.out)) hb); clear HB; have HO384 := n0_; have HB := n1_; clear n0_ n1_; (try clear hb); (try clear hb2); (try clear hk); (try clear hi); (try clear ho0); obtain ⟨Ao12, co12, eo12⟩ := Kd.R_slice HO384.out; subst eo12) | (go_at_call 77; (with_reducible refine (impl_DivideMoney.calls kj2 t381 _ _ t382 t385 t386 _ ?side1 ?side2 A9.out).mono ?_); (case side1 => repeat (first | exact (Kd.R_reads' HO384.out).2.2 | (with_reducible refine Kd.C_alloc ?_ _) | (with_reducible refine Kd.C_drewN ?_ _) | (with_reducible refine Kd.C_drew ?_))); (case side2 => exact (Kd.R_reads' HO384.out).2.1); rintro e w13 ⟨v387, rfl, ho0, hb⟩; have n0_ := Aside0.mk (Kd.R_elder' (by (with_reducible repeat (first | apply Kd.R_alloc | apply Kd.R_drewN | apply Kd.R_drew)); exact HO384.out) (Kd.R_base ho0) hb); have n1_ := Aside0.mk (Kd.R_lower (Kd.R_new' ho0 (Kd.R_lt (by (with_reducible repeat (first | apply Kd.R_alloc | apply Kd.R_drewN | apply Kd.R_drew)); exact HO384.out))) (below_size (by repeat (first | (with_reducible first | exact HB.out | apply below_alloc | apply pw_below_drewN | apply below_drew1) | exact HB.out)))); have n2_ := Aside0.mk (below_step (by repeat (first | (with_reducible first | exact HB.out | apply below_alloc | apply pw_below_drewN | apply below_drew1) | exact HB.out)) hb); clear HO384; clear HB; have HO384 := n0_; have HO388 := n1_; have HB := n2_; clear n0_ n1_ n2_; (try clear hb); (try clear hb2); (try clear hk); (try clear hi); (try clear ho0)))
        repeat (go_quiet (first | (go_at_call 76; (first | (with_reducible refine (spec_DrawDivideMoney.calls kj2 _ _ l0 t381 t382 _ ?side1 ?side2 A8.out).mono ?_) | ((try simp only [Go.IntWalk.i64_left]); (with_reducible refine (spec_DrawDivideMoney.calls kj2 _ _ l0 t381 t382 _ ?side1 ?side2 A8.out).mono ?_))); (case side1 => repeat (first | exact (Kd.C_below HR0.out HB.out) | (with_reducible refine Kd.C_alloc ?_ _) | (with_reducible refine Kd.C_drewN ?_ _) | (with_reducible refine Kd.C_drew ?_))); (case side2 => exact HC0.out); rintro e w11 ⟨v383, rfl, ho0, hb⟩; have n0_ := Aside0.mk (Kd.R_lower ho0 (below_size (by repeat (first | (with_reducible first | exact HB.out | apply below_alloc | apply pw_below_drewN | apply below_drew1) | exact HB.out)))); have n1_ := Aside0.mk (below_step (by repeat (first | (with_reducible first | exact HB.out | apply below_alloc | apply pw_below_drewN | apply below_drew1) | exact HB.out)) hb); clear HB; have HO384 := n0_; have HB := n1_; clear n0_ n1_; (try clear hb); (try clear hb2); (try clear hk); (try clear hi); (try clear ho0); obtain ⟨Ao12, co12, eo12⟩ := Kd.R_slice HO384.out; subst eo12) | (go_at_call 77; (first | (with_reducible refine (impl_DivideMoney.calls kj2 t381 _ _ t382 t385 t386 _ ?side1 ?side2 A9.out).mono ?_) | ((try simp only [Go.IntWalk.i64_left]); (with_reducible refine (impl_DivideMoney.calls kj2 t381 _ _ t382 t385 t386 _ ?side1 ?side2 A9.out).mono ?_))); (case side1 => repeat (first | exact (Kd.R_reads' HO384.out).2.2 | (with_reducible refine Kd.C_alloc ?_ _) | (with_reducible refine Kd.C_drewN ?_ _) | (with_reducible refine Kd.C_drew ?_))); (case side2 => exact (Kd.R_reads' HO384.out).2.1); rintro e w13 ⟨v387, rfl, ho0, hb⟩; have n0_ := Aside0.mk (Kd.R_elder' (by (with_reducible repeat (first | apply Kd.R_alloc | apply Kd.R_drewN | apply Kd.R_drew)); exact HO384.out) (Kd.R_base ho0) hb); have n1_ := Aside0.mk (Kd.R_lower (Kd.R_new' ho0 (Kd.R_lt (by (with_reducible repeat (first | apply Kd.R_alloc | apply Kd.R_drewN | apply Kd.R_drew)); exact HO384.out))) (below_size (by repeat (first | (with_reducible first | exact HB.out | apply below_alloc | apply pw_below_drewN | apply below_drew1) | exact HB.out)))); have n2_ := Aside0.mk (below_step (by repeat (first | (with_reducible first | exact HB.out | apply below_alloc | apply pw_below_drewN | apply below_drew1) | exact HB.out)) hb); clear HO384; clear HB; have HO384 := n0_; have HO388 := n1_; have HB := n2_; clear n0_ n1_ n2_; (try clear hb); (try clear hb2); (try clear hk); (try clear hi); (try clear ho0))); go_upto_if 38 with (first | (go_at_call 76; (first | (with_reducible refine (spec_DrawDivideMoney.calls kj2 _ _ l0 t381 t382 _ ?side1 ?side2 A8.out).mono ?_) | ((try simp only [Go.IntWalk.i64_left]); (with_reducible refine (spec_DrawDivideMoney.calls kj2 _ _ l0 t381 t382 _ ?side1 ?side2 A8.out).mono ?_))); (case side1 => repeat (first | exact (Kd.C_below HR0.out HB.out) | (with_reducible refine Kd.C_alloc ?_ _) | (with_reducible refine Kd.C_drewN ?_ _) | (with_reducible refine Kd.C_drew ?_))); (case side2 => exact HC0.out); rintro e w11 ⟨v383, rfl, ho0, hb⟩; have n0_ := Aside0.mk (Kd.R_lower ho0 (below_size (by repeat (first | (with_reducible first | exact HB.out | apply below_alloc | apply pw_below_drewN | apply below_drew1) | exact HB.out)))); have n1_ := Aside0.mk (below_step (by repeat (first | (with_reducible first | exact HB.out | apply below_alloc | apply pw_below_drewN | apply below_drew1) | exact HB.out)) hb); clear HB; have HO384 := n0_; have HB := n1_; clear n0_ n1_; (try clear hb); (try clear hb2); (try clear hk); (try clear hi); (try clear ho0); obtain ⟨Ao12, co12, eo12⟩ := Kd.R_slice HO384.out; subst eo12) | (go_at_call 77; (first | (with_reducible refine (impl_DivideMoney.calls kj2 t381 _ _ t382 t385 t386 _ ?side1 ?side2 A9.out).mono ?_) | ((try simp only [Go.IntWalk.i64_left]); (with_reducible refine (impl_DivideMoney.calls kj2 t381 _ _ t382 t385 t386 _ ?side1 ?side2 A9.out).mono ?_))); (case side1 => repeat (first | exact (Kd.R_reads' HO384.out).2.2 | (with_reducible refine Kd.C_alloc ?_ _) | (with_reducible refine Kd.C_drewN ?_ _) | (with_reducible refine Kd.C_drew ?_))); (case side2 => exact (Kd.R_reads' HO384.out).2.1); rintro e w13 ⟨v387, rfl, ho0, hb⟩; have n0_ := Aside0.mk (Kd.R_elder' (by (with_reducible repeat (first | apply Kd.R_alloc | apply Kd.R_drewN | apply Kd.R_drew)); exact HO384.out) (Kd.R_base ho0) hb); have n1_ := Aside0.mk (Kd.R_lower (Kd.R_new' ho0 (Kd.R_lt (by (with_reducible repeat (first | apply Kd.R_alloc | apply Kd.R_drewN | apply Kd.R_drew)); exact HO384.out))) (below_size (by repeat (first | (with_reducible first | exact HB.out | apply below_alloc | apply pw_below_drewN | apply below_drew1) | exact HB.out)))); have n2_ := Aside0.mk (below_step (by repeat (first | (with_reducible first | exact HB.out | apply below_alloc | apply pw_below_drewN | apply below_drew1) | exact HB.out)) hb); clear HO384; clear HB; have HO384 := n0_; have HO388 := n1_; have HB := n2_; clear n0_ n1_ n2_; (try clear hb); (try clear hb2); (try clear hk); (try clear hi); (try clear ho0))))
        (try simp only [Act.put, List.setIfInBounds_toArray, List.set_cons_zero, List.set_cons_succ])
        go_cut [] (fun wc => ∃ (kq : Nat), Aside0 (laws_FnShares.j5 kq l1 = some r) ∧ Aside0 (kq ≤ kj2) ∧ Aside0 (Below w.heap.size w wc))
        case first =>
          have H := HC10.out
          clear HC10
          by_cases c14 : t386 = 0
          · as_aux_lemma =>
            rw [if_pos c14] at H
            have c14b0 : (t386 == 0) = true := beq_iff_eq.mpr c14
            have c14b1 : (t386 != 0) = false := bne_eq_false_iff_eq.mpr c14
            clear c14
            (first | rw [c14b0] | (simp only [i64_w, i32_w]; rw [c14b0]) | skip)
            have HC15 := Aside0.mk H
            clear H
            go_upto_region 6 with (fail)
            repeat (go_quiet (fail); go_upto_region 6 with (fail))
            go_cut [49] (fun v49 wc => ∃ (kq : Nat) (x49_14 : Bool), v49 = .bool x49_14 ∧ Aside0 (laws_FnShares.j1 kq l1 t382 t385 x49_14 = some r) ∧ Aside0 (kq ≤ kj2) ∧ Aside0 (Kd.R (Kd.int .i64) 2 wc w.heap.size (fun k_ => some k_ ≠ (v387 : Value).ownBlock) (.slice Ao12 t382.length co12) t382) ∧ Aside0 (Kd.R (Kd.int .i64) 2 wc w.heap.size (fun k_ => some k_ ≠ ((.slice Ao12 t382.length co12) : Value).ownBlock) v387 t385) ∧ Aside0 (Below w.heap.size w wc))
            case first =>
              have H := HC15.out
              clear HC15
              by_cases c16 : (t385.length : Int) = (t382.length : Int)
              · rw [if_pos c16] at H
                have c16b0 : ((t385.length : Int) == (t382.length : Int)) = true := beq_iff_eq.mpr c16
                have c16b1 : ((t385.length : Int) != (t382.length : Int)) = false := bne_eq_false_iff_eq.mpr c16
                have c16b2 : (t385.length == t382.length) = true := by first | simpa using c16 | (simp at c16 ⊢; omega)
                clear c16
                (first | rw [c16b0] | (simp only [i64_w, i32_w]; rw [c16b0]) | skip)
                replace H := Option.bind_eq_some_iff.mp H
                obtain ⟨t389, A170, H⟩ := H
                replace H : (laws_FnShares.j1 kj2 l1 t382 t385 (t389 != t381)) = some r := H
                have A17 := Aside0.mk A170
                clear A170
                have H' := Aside0.mk H
                clear H
                obtain ⟨Ao18, co18, eo18⟩ := Kd.R_slice HO388.out
                subst eo18
                go_wp2_with (first | (go_at_call 78; (first | (with_reducible refine (laws_b10Sum.calls kj2 _ _ t385 t389 _ ?side1 ?side2 A17.out).mono ?_) | ((try simp only [Go.IntWalk.i64_left]); (with_reducible refine (laws_b10Sum.calls kj2 _ _ t385 t389 _ ?side1 ?side2 A17.out).mono ?_))); (case side1 => repeat (first | exact (Kd.R_reads' HO388.out).2.2 | (with_reducible refine Kd.C_alloc ?_ _) | (with_reducible refine Kd.C_drewN ?_ _) | (with_reducible refine Kd.C_drew ?_))); (case side2 => exact (Kd.R_reads' HO388.out).2.1); rintro e w' ⟨rfl, ⟨nd, rfl⟩⟩; (try first | exact ⟨rfl, _, World.drewN_drewN _ _ _⟩ | exact ⟨rfl, _, Eq.trans (World.drewN_drewN _ _ _) (congrArg (World.drewN _) (Nat.add_assoc _ _ _))⟩)))
                repeat (go_quiet (first | (go_at_call 78; (first | (with_reducible refine (laws_b10Sum.calls kj2 _ _ t385 t389 _ ?side1 ?side2 A17.out).mono ?_) | ((try simp only [Go.IntWalk.i64_left]); (with_reducible refine (laws_b10Sum.calls kj2 _ _ t385 t389 _ ?side1 ?side2 A17.out).mono ?_))); (case side1 => repeat (first | exact (Kd.R_reads' HO388.out).2.2 | (with_reducible refine Kd.C_alloc ?_ _) | (with_reducible refine Kd.C_drewN ?_ _) | (with_reducible refine Kd.C_drew ?_))); (case side2 => exact (Kd.R_reads' HO388.out).2.1); rintro e w' ⟨rfl, ⟨nd, rfl⟩⟩; (try first | exact ⟨rfl, _, World.drewN_drewN _ _ _⟩ | exact ⟨rfl, _, Eq.trans (World.drewN_drewN _ _ _) (congrArg (World.drewN _) (Nat.add_assoc _ _ _))⟩))); try go_wp2_with (first | (go_at_call 78; (first | (with_reducible refine (laws_b10Sum.calls kj2 _ _ t385 t389 _ ?side1 ?side2 A17.out).mono ?_) | ((try simp only [Go.IntWalk.i64_left]); (with_reducible refine (laws_b10Sum.calls kj2 _ _ t385 t389 _ ?side1 ?side2 A17.out).mono ?_))); (case side1 => repeat (first | exact (Kd.R_reads' HO388.out).2.2 | (with_reducible refine Kd.C_alloc ?_ _) | (with_reducible refine Kd.C_drewN ?_ _) | (with_reducible refine Kd.C_drew ?_))); (case side2 => exact (Kd.R_reads' HO388.out).2.1); rintro e w' ⟨rfl, ⟨nd, rfl⟩⟩; (try first | exact ⟨rfl, _, World.drewN_drewN _ _ _⟩ | exact ⟨rfl, _, Eq.trans (World.drewN_drewN _ _ _) (congrArg (World.drewN _) (Nat.add_assoc _ _ _))⟩))))
                go_meet
                case rel => exact ⟨_, ((t389 != t381)), (by first | rfl | (simp; done) | (simp [*]; done)), H', ⟨by have := HJ2.out; first | omega | exact Nat.le_refl _⟩, ⟨by (with_reducible repeat (first | apply Kd.R_alloc | apply Kd.R_drewN | apply Kd.R_drew)); exact Kd.R_mono HO384.out (fun _ hk => hk.2)⟩, ⟨by (with_reducible repeat (first | apply Kd.R_alloc | apply Kd.R_drewN | apply Kd.R_drew)); exact Kd.R_mono HO388.out (fun _ hk => hk.2)⟩, ⟨by repeat (first | (with_reducible first | exact HB.out | apply below_alloc | apply pw_below_drewN | apply below_drew1) | exact HB.out)⟩⟩
              · rw [if_neg c16] at H
                have c16b0 : ((t385.length : Int) == (t382.length : Int)) = false := beq_eq_false_iff_ne.mpr c16
                have c16b1 : ((t385.length : Int) != (t382.length : Int)) = true := bne_iff_ne.mpr c16
                have c16b2 : (t385.length == t382.length) = false := by first | simpa using c16 | (simp at c16 ⊢; omega)
                (first | rw [c16b0] | (simp only [i64_w, i32_w]; rw [c16b0]) | skip)
                have H' := Aside0.mk H
                clear H
                obtain ⟨Ao19, co19, eo19⟩ := Kd.R_slice HO388.out
                subst eo19
                go_wp2
                repeat (go_quiet (fail); try go_wp2)
                go_meet
                case rel => exact ⟨_, (true), (by first | rfl | (simp; done) | (simp [*]; done)), H', ⟨by have := HJ2.out; first | omega | exact Nat.le_refl _⟩, ⟨by (with_reducible repeat (first | apply Kd.R_alloc | apply Kd.R_drewN | apply Kd.R_drew)); exact Kd.R_mono HO384.out (fun _ hk => hk.2)⟩, ⟨by (with_reducible repeat (first | apply Kd.R_alloc | apply Kd.R_drewN | apply Kd.R_drew)); exact Kd.R_mono HO388.out (fun _ hk => hk.2)⟩, ⟨by repeat (first | (with_reducible first | exact HB.out | apply below_alloc | apply pw_below_drewN | apply below_drew1) | exact HB.out)⟩⟩
            case rest =>
              clear HC15
              try clear c1
              try clear p2
              try clear c5
              try clear c7
              try clear c13
              try clear c14
              try clear c14b0
              try clear c14b1
              try clear c16
              try clear c16b0
              try clear c16b1
              try clear c16b2
              try clear p2
              obtain ⟨kq, x49_14, rfl, HA, HJ14, HO_6, HO_7, HB⟩ := hcut
              cases kq with
              | zero => exact absurd HA.out (by simp [laws_FnShares.j1])
              | succ kj14 =>
                have H := HA.out
                clear HA
                simp only [laws_FnShares.j1] at H
                by_cases c20 : x49_14 = true
                · subst c20
                  have H1 : (some false) = some r := by rw [if_pos rfl] at H; exact H
                  clear H
                  have H := H1
                  clear H1
                  obtain rfl := Option.some.inj H
                  go_wp2
                  repeat (go_quiet (fail); try go_wp2)
                  go_ret
                  exact ⟨by first | rfl | (simp [errW_none, errW_some] <;> rfl) | (simp [*, errW_none, errW_some] <;> rfl), by repeat (first | (with_reducible first | exact HB.out | apply below_alloc | apply pw_below_drewN | apply below_drew1) | exact HB.out)⟩
                · as_aux_lemma =>
                  replace c20 := Bool.eq_false_iff.mpr c20
                  subst c20
                  have H1 : (laws_FnShares.l0 kj14 l1 t382 t385 0) = some r := by rw [if_neg (show ¬ (false = true) by decide)] at H; exact H
                  clear H
                  have H := H1
                  clear H1
                  have H' := Aside0.mk H
                  clear H
                  go_wp2
                  repeat (go_quiet (fail); try go_wp2)
                  go_loopg [9] kj14 (fun kq v9 w' => ∃ (x9_3 : Int), v9 = .int .i64 x9_3 ∧ Aside0 (laws_FnShares.l0 kq l1 t382 t385 x9_3 = some r) ∧ Aside0 (kq ≤ kj14) ∧ Aside0 (Kd.R (Kd.int .i64) 2 w' w.heap.size (fun k_ => some k_ ≠ (v387 : Value).ownBlock) (.slice Ao12 t382.length co12) t382) ∧ Aside0 (Kd.R (Kd.int .i64) 2 w' w.heap.size (fun k_ => some k_ ≠ ((.slice Ao12 t382.length co12) : Value).ownBlock) v387 t385) ∧ Aside0 (Below w.heap.size w w'))
                  case atStart => exact ⟨(0), (by first | rfl | (simp; done) | (simp [*]; done)), H', ⟨Nat.le_refl _⟩, ⟨by (with_reducible repeat (first | apply Kd.R_alloc | apply Kd.R_drewN | apply Kd.R_drew)); exact HO_6.out⟩, ⟨by (with_reducible repeat (first | apply Kd.R_alloc | apply Kd.R_drewN | apply Kd.R_drew)); exact HO_7.out⟩, ⟨by repeat (first | (with_reducible first | exact HB.out | apply below_alloc | apply pw_below_drewN | apply below_drew1) | exact HB.out)⟩⟩
                  case round =>
                    clear H'
                    try clear c1
                    try clear c2
                    try clear p2
                    try clear c5
                    try clear c7
                    try clear c13
                    try clear c14
                    try clear c14b0
                    try clear c14b1
                    try clear c16
                    try clear c16b0
                    try clear c16b1
                    try clear c16b2
                    try clear c20
                    try clear p2
                    obtain ⟨x9_3, rfl, HA, HK3, HO_6, HO_7, HB⟩ := hrel
                    cases gk with
                    | zero => exact absurd HA.out (by simp [laws_FnShares.l0])
                    | succ k3 =>
                      have H := HA.out
                      clear HA
                      simp only [laws_FnShares.l0] at H
                      by_cases c21 : x9_3 < (t385.length : Int)
                      · as_aux_lemma =>
                        rw [if_pos c21] at H
                        have c21b0 : decide (x9_3 < (t385.length : Int)) = true := decide_eq_true c21
                        clear c21
                        have HC22 := Aside0.mk H
                        clear H
                        obtain ⟨Ao23, co23, eo23⟩ := Kd.R_slice HO_7.out
                        subst eo23
                        go_upto_region 11 with (fail)
                        repeat (go_quiet (fail); go_upto_region 11 with (fail))
                        go_cut [74] (fun v74 wc => ∃ (kq : Nat) (x74_21 : Bool), v74 = .bool x74_21 ∧ Aside0 (laws_FnShares.j3 kq l1 t382 t385 x9_3 x74_21 = some r) ∧ Aside0 (kq ≤ k3) ∧ Aside0 (Kd.R (Kd.int .i64) 2 wc w.heap.size (fun k_ => some k_ ≠ ((.slice Ao23 t385.length co23) : Value).ownBlock) (.slice Ao12 t382.length co12) t382) ∧ Aside0 (Kd.R (Kd.int .i64) 2 wc w.heap.size (fun k_ => some k_ ≠ ((.slice Ao12 t382.length co12) : Value).ownBlock) (.slice Ao23 t385.length co23) t385) ∧ Aside0 (Below w.heap.size w wc))
                        case first =>
                          have H := HC22.out
                          clear HC22
                          by_cases c24 : 0 ≤ x9_3
                          · as_aux_lemma =>
                            rw [if_pos c24] at H
                            have c24b0 : decide (0 ≤ x9_3) = true := decide_eq_true c24
                            clear c24
                            (first | rw [c24b0] | (simp only [i64_w, i32_w]; rw [c24b0]) | skip)
                            by_cases c25 : (rd t385 x9_3) < 0
                            · rw [if_pos c25] at H
                              have c25b0 : decide ((rd t385 x9_3) < 0) = true := decide_eq_true c25
                              clear c25
                              have H' := Aside0.mk H
                              clear H
                              have p390 : 0 ≤ (x9_3 : Int) := of_decide_eq_true (by first | (with_reducible assumption) | assumption)
                              have q390 : x9_3 < (t385.length : Int) := of_decide_eq_true (by first | (with_reducible assumption) | assumption)
                              obtain ⟨ad390, e390, hx390_0⟩ := Kd.at_int (Kd.R_reads' HO_7.out).2.2 x9_3 p390 q390
                              cases e390
                              replace p390 := eq_true p390
                              replace q390 := eq_true q390
                              go_wp2
                              repeat (go_quiet (fail); try go_wp2)
                              go_meet
                              case rel => exact ⟨_, (true), (by first | rfl | (simp; done) | (simp [*]; done)), H', ⟨by have := HJ2.out; have := HJ14.out; have := HK3.out; first | omega | exact Nat.le_refl _⟩, ⟨by (with_reducible repeat (first | apply Kd.R_alloc | apply Kd.R_drewN | apply Kd.R_drew)); exact HO_6.out⟩, ⟨by (with_reducible repeat (first | apply Kd.R_alloc | apply Kd.R_drewN | apply Kd.R_drew)); exact HO_7.out⟩, ⟨by repeat (first | (with_reducible first | exact HB.out | apply below_alloc | apply pw_below_drewN | apply below_drew1) | exact HB.out)⟩⟩
                            · rw [if_neg c25] at H
                              have c25b0 : decide ((rd t385 x9_3) < 0) = false := decide_eq_false c25
                              clear c25
                              by_cases c26 : x9_3 < (t382.length : Int)
                              · rw [if_pos c26] at H
                                have c26b0 : decide (x9_3 < (t382.length : Int)) = true := decide_eq_true c26
                                clear c26
                                by_cases c27 : (rd t382 x9_3) = 0
                                · rw [if_pos c27] at H
                                  have c27b0 : ((rd t382 x9_3) == 0) = true := beq_iff_eq.mpr c27
                                  have c27b1 : ((rd t382 x9_3) != 0) = false := bne_eq_false_iff_eq.mpr c27
                                  clear c27
                                  have H' := Aside0.mk H
                                  clear H
                                  have p390 : 0 ≤ (x9_3 : Int) := of_decide_eq_true (by first | (with_reducible assumption) | assumption)
                                  have q390 : x9_3 < (t385.length : Int) := of_decide_eq_true (by first | (with_reducible assumption) | assumption)
                                  obtain ⟨ad390, e390, hx390_0⟩ := Kd.at_int (Kd.R_reads' HO_7.out).2.2 x9_3 p390 q390
                                  cases e390
                                  replace p390 := eq_true p390
                                  replace q390 := eq_true q390
                                  have p391 : 0 ≤ (x9_3 : Int) := of_decide_eq_true (by first | (with_reducible assumption) | assumption)
                                  have q391 : x9_3 < (t382.length : Int) := of_decide_eq_true (by first | (with_reducible assumption) | assumption)
                                  obtain ⟨ad391, e391, hx391_0⟩ := Kd.at_int (Kd.R_reads' HO_6.out).2.2 x9_3 p391 q391
                                  cases e391
                                  replace p391 := eq_true p391
                                  replace q391 := eq_true q391
                                  have p392 : 0 ≤ (x9_3 : Int) := of_decide_eq_true (by first | (with_reducible assumption) | assumption)
                                  have q392 : x9_3 < (t385.length : Int) := of_decide_eq_true (by first | (with_reducible assumption) | assumption)
                                  obtain ⟨ad392, e392, hx392_0⟩ := Kd.at_int (Kd.R_reads' HO_7.out).2.2 x9_3 p392 q392
                                  obtain rfl : ad390 = ad392 := (by injection e392)
                                  replace p392 := eq_true p392
                                  replace q392 := eq_true q392
                                  go_wp2
                                  repeat (go_quiet (fail); try go_wp2)
                                  go_meet
                                  case rel => exact ⟨_, (((rd t385 x9_3) != 0)), (by first | rfl | (simp; done) | (simp [*]; done)), H', ⟨by have := HJ2.out; have := HJ14.out; have := HK3.out; first | omega | exact Nat.le_refl _⟩, ⟨by (with_reducible repeat (first | apply Kd.R_alloc | apply Kd.R_drewN | apply Kd.R_drew)); exact HO_6.out⟩, ⟨by (with_reducible repeat (first | apply Kd.R_alloc | apply Kd.R_drewN | apply Kd.R_drew)); exact HO_7.out⟩, ⟨by repeat (first | (with_reducible first | exact HB.out | apply below_alloc | apply pw_below_drewN | apply below_drew1) | exact HB.out)⟩⟩
                                · rw [if_neg c27] at H
                                  have c27b0 : ((rd t382 x9_3) == 0) = false := beq_eq_false_iff_ne.mpr c27
                                  have c27b1 : ((rd t382 x9_3) != 0) = true := bne_iff_ne.mpr c27
                                  have H' := Aside0.mk H
                                  clear H
                                  have p390 : 0 ≤ (x9_3 : Int) := of_decide_eq_true (by first | (with_reducible assumption) | assumption)
                                  have q390 : x9_3 < (t385.length : Int) := of_decide_eq_true (by first | (with_reducible assumption) | assumption)
                                  obtain ⟨ad390, e390, hx390_0⟩ := Kd.at_int (Kd.R_reads' HO_7.out).2.2 x9_3 p390 q390
                                  cases e390
                                  replace p390 := eq_true p390
                                  replace q390 := eq_true q390
                                  have p391 : 0 ≤ (x9_3 : Int) := of_decide_eq_true (by first | (with_reducible assumption) | assumption)
                                  have q391 : x9_3 < (t382.length : Int) := of_decide_eq_true (by first | (with_reducible assumption) | assumption)
                                  obtain ⟨ad391, e391, hx391_0⟩ := Kd.at_int (Kd.R_reads' HO_6.out).2.2 x9_3 p391 q391
                                  cases e391
                                  replace p391 := eq_true p391
                                  replace q391 := eq_true q391
                                  go_wp2
                                  repeat (go_quiet (fail); try go_wp2)
                                  go_meet
                                  case rel => exact ⟨_, (false), (by first | rfl | (simp; done) | (simp [*]; done)), H', ⟨by have := HJ2.out; have := HJ14.out; have := HK3.out; first | omega | exact Nat.le_refl _⟩, ⟨by (with_reducible repeat (first | apply Kd.R_alloc | apply Kd.R_drewN | apply Kd.R_drew)); exact HO_6.out⟩, ⟨by (with_reducible repeat (first | apply Kd.R_alloc | apply Kd.R_drewN | apply Kd.R_drew)); exact HO_7.out⟩, ⟨by repeat (first | (with_reducible first | exact HB.out | apply below_alloc | apply pw_below_drewN | apply below_drew1) | exact HB.out)⟩⟩
                              · rw [if_neg c26] at H
                                exact absurd H (by simp)
                          · rw [if_neg c24] at H
                            exact absurd H (by simp)
                        case rest =>
                          clear HC22
                          try clear c1
                          try clear c2
                          try clear p2
                          try clear p3
                          try clear q3
                          try clear hx3
                          try clear c5
                          try clear c7
                          try clear c13
                          try clear c14
                          try clear c14b0
                          try clear c14b1
                          try clear c16
                          try clear c16b0
                          try clear c16b1
                          try clear c16b2
                          try clear c20
                          try clear c21
                          try clear c21b0
                          try clear c24
                          try clear c24b0
                          try clear c25
                          try clear c25b0
                          try clear c26
                          try clear c26b0
                          try clear c27
                          try clear c27b0
                          try clear c27b1
                          try clear hx390_0
                          try clear hx391_0
                          try clear hx392_0
                          try clear p2
                          try clear p390
                          try clear p391
                          try clear p392
                          try clear q390
                          try clear q391
                          try clear q392
                          obtain ⟨kq, x74_21, rfl, HA, HJ21, HO_6, HO_7, HB⟩ := hcut
                          cases kq with
                          | zero => exact absurd HA.out (by simp [laws_FnShares.j3])
                          | succ kj21 =>
                            have H := HA.out
                            clear HA
                            simp only [laws_FnShares.j3] at H
                            by_cases c28 : x74_21 = true
                            · subst c28
                              have H1 : (some false) = some r := by rw [if_pos rfl] at H; exact H
                              clear H
                              have H := H1
                              clear H1
                              obtain rfl := Option.some.inj H
                              go_wp2
                              repeat (go_quiet (fail); try go_wp2)
                              go_ret
                              exact ⟨by first | rfl | (simp [errW_none, errW_some] <;> rfl) | (simp [*, errW_none, errW_some] <;> rfl), by repeat (first | (with_reducible first | exact HB.out | apply below_alloc | apply pw_below_drewN | apply below_drew1) | exact HB.out)⟩
                            · as_aux_lemma =>
                              replace c28 := Bool.eq_false_iff.mpr c28
                              subst c28
                              have H1 : (laws_FnShares.l1 kj21 l1 t382 t385 x9_3 0) = some r := by rw [if_neg (show ¬ (false = true) by decide)] at H; exact H
                              clear H
                              have H := H1
                              clear H1
                              have H' := Aside0.mk H
                              clear H
                              go_wp2
                              repeat (go_quiet (fail); try go_wp2)
                              go_loopg [10] kj21 (fun kq v10 w' => ∃ (x10_5 : Int), v10 = .int .i64 x10_5 ∧ Aside0 (laws_FnShares.l1 kq l1 t382 t385 x9_3 x10_5 = some r) ∧ Aside0 (kq ≤ kj21) ∧ Aside0 (Kd.R (Kd.int .i64) 2 w' w.heap.size (fun k_ => some k_ ≠ ((.slice Ao23 t385.length co23) : Value).ownBlock) (.slice Ao12 t382.length co12) t382) ∧ Aside0 (Kd.R (Kd.int .i64) 2 w' w.heap.size (fun k_ => some k_ ≠ ((.slice Ao12 t382.length co12) : Value).ownBlock) (.slice Ao23 t385.length co23) t385) ∧ Aside0 (Below w.heap.size w w'))
                              case atStart => exact ⟨(0), (by first | rfl | (simp; done) | (simp [*]; done)), H', ⟨Nat.le_refl _⟩, ⟨by (with_reducible repeat (first | apply Kd.R_alloc | apply Kd.R_drewN | apply Kd.R_drew)); exact HO_6.out⟩, ⟨by (with_reducible repeat (first | apply Kd.R_alloc | apply Kd.R_drewN | apply Kd.R_drew)); exact HO_7.out⟩, ⟨by repeat (first | (with_reducible first | exact HB.out | apply below_alloc | apply pw_below_drewN | apply below_drew1) | exact HB.out)⟩⟩
                              case round =>
                                clear H'
                                try clear c1
                                try clear c2
                                try clear p2
                                try clear p3
                                try clear q3
                                try clear hx3
                                try clear c5
                                try clear c7
                                try clear c13
                                try clear c14
                                try clear c14b0
                                try clear c14b1
                                try clear c16
                                try clear c16b0
                                try clear c16b1
                                try clear c16b2
                                try clear c20
                                try clear c21
                                try clear c21b0
                                try clear c24
                                try clear c24b0
                                try clear c25
                                try clear c25b0
                                try clear c26
                                try clear c26b0
                                try clear c27
                                try clear c27b0
                                try clear c27b1
                                try clear c28
                                try clear hx390_0
                                try clear hx391_0
                                try clear hx392_0
                                try clear p2
                                try clear p3
                                try clear p390
                                try clear p391
                                try clear p392
                                try clear q3
                                try clear q390
                                try clear q391
                                try clear q392
                                obtain ⟨x10_5, rfl, HA, HK5, HO_6, HO_7, HB⟩ := hrel
                                cases gk with
                                | zero => exact absurd HA.out (by simp [laws_FnShares.l1])
                                | succ k5 =>
                                  have H := HA.out
                                  clear HA
                                  simp only [laws_FnShares.l1] at H
                                  by_cases c29 : x10_5 < (t385.length : Int)
                                  · as_aux_lemma =>
                                    rw [if_pos c29] at H
                                    have c29b0 : decide (x10_5 < (t385.length : Int)) = true := decide_eq_true c29
                                    clear c29
                                    by_cases c30 : 0 ≤ x9_3
                                    · as_aux_lemma =>
                                      rw [if_pos c30] at H
                                      have c30b0 : decide (0 ≤ x9_3) = true := decide_eq_true c30
                                      clear c30
                                      by_cases c31 : x9_3 < (t382.length : Int)
                                      · as_aux_lemma =>
                                        rw [if_pos c31] at H
                                        have c31b0 : decide (x9_3 < (t382.length : Int)) = true := decide_eq_true c31
                                        clear c31
                                        by_cases c32 : 0 ≤ x10_5
                                        · as_aux_lemma =>
                                          rw [if_pos c32] at H
                                          have c32b0 : decide (0 ≤ x10_5) = true := decide_eq_true c32
                                          clear c32
                                          by_cases c33 : x10_5 < (t382.length : Int)
                                          · as_aux_lemma =>
                                            rw [if_pos c33] at H
                                            have c33b0 : decide (x10_5 < (t382.length : Int)) = true := decide_eq_true c33
                                            clear c33
                                            by_cases c34 : (rd t382 x9_3) ≥ (rd t382 x10_5)
                                            · as_aux_lemma =>
                                              rw [if_pos c34] at H
                                              have c34b0 : decide ((rd t382 x10_5) ≤ (rd t382 x9_3)) = true := decide_eq_true c34
                                              clear c34
                                              by_cases c35 : x9_3 < (t385.length : Int)
                                              · as_aux_lemma =>
                                                rw [if_pos c35] at H
                                                have c35b0 : decide (x9_3 < (t385.length : Int)) = true := decide_eq_true c35
                                                clear c35
                                                by_cases c36 : (rd t385 x9_3) < (wrap64 ((rd t385 x10_5) - 1))
                                                · rw [if_pos c36] at H
                                                  have c36b0 : decide ((rd t385 x9_3) < (wrap64 ((rd t385 x10_5) - 1))) = true := decide_eq_true c36
                                                  clear c36
                                                  obtain rfl := Option.some.inj H
                                                  have p393 : 0 ≤ (x9_3 : Int) := of_decide_eq_true (by first | (with_reducible assumption) | assumption)
                                                  have q393 : x9_3 < (t382.length : Int) := of_decide_eq_true (by first | (with_reducible assumption) | assumption)
                                                  obtain ⟨ad393, e393, hx393_0⟩ := Kd.at_int (Kd.R_reads' HO_6.out).2.2 x9_3 p393 q393
                                                  cases e393
                                                  replace p393 := eq_true p393
                                                  replace q393 := eq_true q393
                                                  have p394 : 0 ≤ (x10_5 : Int) := of_decide_eq_true (by first | (with_reducible assumption) | assumption)
                                                  have q394 : x10_5 < (t382.length : Int) := of_decide_eq_true (by first | (with_reducible assumption) | assumption)
                                                  obtain ⟨ad394, e394, hx394_0⟩ := Kd.at_int (Kd.R_reads' HO_6.out).2.2 x10_5 p394 q394
                                                  obtain rfl : ad393 = ad394 := (by injection e394)
                                                  replace p394 := eq_true p394
                                                  replace q394 := eq_true q394
                                                  have p395 : 0 ≤ (x9_3 : Int) := of_decide_eq_true (by first | (with_reducible assumption) | assumption)
                                                  have q395 : x9_3 < (t385.length : Int) := of_decide_eq_true (by first | (with_reducible assumption) | assumption)
                                                  obtain ⟨ad395, e395, hx395_0⟩ := Kd.at_int (Kd.R_reads' HO_7.out).2.2 x9_3 p395 q395
                                                  cases e395
                                                  replace p395 := eq_true p395
                                                  replace q395 := eq_true q395
                                                  have p396 : 0 ≤ (x10_5 : Int) := of_decide_eq_true (by first | (with_reducible assumption) | assumption)
                                                  have q396 : x10_5 < (t385.length : Int) := of_decide_eq_true (by first | (with_reducible assumption) | assumption)
                                                  obtain ⟨ad396, e396, hx396_0⟩ := Kd.at_int (Kd.R_reads' HO_7.out).2.2 x10_5 p396 q396
                                                  obtain rfl : ad395 = ad396 := (by injection e396)
                                                  replace p396 := eq_true p396
                                                  replace q396 := eq_true q396
                                                  go_wp2
                                                  repeat (go_quiet (fail); try go_wp2)
                                                  go_ret
                                                  exact ⟨by first | rfl | (simp [errW_none, errW_some] <;> rfl) | (simp [*, errW_none, errW_some] <;> rfl), by repeat (first | (with_reducible first | exact HB.out | apply below_alloc | apply pw_below_drewN | apply below_drew1) | exact HB.out)⟩
                                                · rw [if_neg c36] at H
                                                  have c36b0 : decide ((rd t385 x9_3) < (wrap64 ((rd t385 x10_5) - 1))) = false := decide_eq_false c36
                                                  clear c36
                                                  have H' := Aside0.mk H
                                                  clear H
                                                  have p393 : 0 ≤ (x9_3 : Int) := of_decide_eq_true (by first | (with_reducible assumption) | assumption)
                                                  have q393 : x9_3 < (t382.length : Int) := of_decide_eq_true (by first | (with_reducible assumption) | assumption)
                                                  obtain ⟨ad393, e393, hx393_0⟩ := Kd.at_int (Kd.R_reads' HO_6.out).2.2 x9_3 p393 q393
                                                  cases e393
                                                  replace p393 := eq_true p393
                                                  replace q393 := eq_true q393
                                                  have p394 : 0 ≤ (x10_5 : Int) := of_decide_eq_true (by first | (with_reducible assumption) | assumption)
                                                  have q394 : x10_5 < (t382.length : Int) := of_decide_eq_true (by first | (with_reducible assumption) | assumption)
                                                  obtain ⟨ad394, e394, hx394_0⟩ := Kd.at_int (Kd.R_reads' HO_6.out).2.2 x10_5 p394 q394
                                                  obtain rfl : ad393 = ad394 := (by injection e394)
                                                  replace p394 := eq_true p394
                                                  replace q394 := eq_true q394
                                                  have p395 : 0 ≤ (x9_3 : Int) := of_decide_eq_true (by first | (with_reducible assumption) | assumption)
                                                  have q395 : x9_3 < (t385.length : Int) := of_decide_eq_true (by first | (with_reducible assumption) | assumption)
                                                  obtain ⟨ad395, e395, hx395_0⟩ := Kd.at_int (Kd.R_reads' HO_7.out).2.2 x9_3 p395 q395
                                                  cases e395
                                                  replace p395 := eq_true p395
                                                  replace q395 := eq_true q395
                                                  have p396 : 0 ≤ (x10_5 : Int) := of_decide_eq_true (by first | (with_reducible assumption) | assumption)
                                                  have q396 : x10_5 < (t385.length : Int) := of_decide_eq_true (by first | (with_reducible assumption) | assumption)
                                                  obtain ⟨ad396, e396, hx396_0⟩ := Kd.at_int (Kd.R_reads' HO_7.out).2.2 x10_5 p396 q396
                                                  obtain rfl : ad395 = ad396 := (by injection e396)
                                                  replace p396 := eq_true p396
                                                  replace q396 := eq_true q396
                                                  go_wp2
                                                  repeat (go_quiet (fail); try go_wp2)
                                                  go_roundg k5
                                                  case measure => have := HJ2.out; have := HJ14.out; have := HK3.out; have := HJ21.out; have := HK5.out; omega
                                                  case rel => exact ⟨(wrap64 (x10_5 + 1)), (by first | rfl | (simp; done) | (simp [*]; done)), H', ⟨by have := HJ2.out; have := HJ14.out; have := HK3.out; have := HJ21.out; have := HK5.out; omega⟩, ⟨by (with_reducible repeat (first | apply Kd.R_alloc | apply Kd.R_drewN | apply Kd.R_drew)); exact HO_6.out⟩, ⟨by (with_reducible repeat (first | apply Kd.R_alloc | apply Kd.R_drewN | apply Kd.R_drew)); exact HO_7.out⟩, ⟨by repeat (first | (with_reducible first | exact HB.out | apply below_alloc | apply pw_below_drewN | apply below_drew1) | exact HB.out)⟩⟩
                                              · rw [if_neg c35] at H
                                                exact absurd H (by simp)
                                            · rw [if_neg c34] at H
                                              have c34b0 : decide ((rd t382 x10_5) ≤ (rd t382 x9_3)) = false := decide_eq_false c34
                                              clear c34
                                              have H' := Aside0.mk H
                                              clear H
                                              have p393 : 0 ≤ (x9_3 : Int) := of_decide_eq_true (by first | (with_reducible assumption) | assumption)
                                              have q393 : x9_3 < (t382.length : Int) := of_decide_eq_true (by first | (with_reducible assumption) | assumption)
                                              obtain ⟨ad393, e393, hx393_0⟩ := Kd.at_int (Kd.R_reads' HO_6.out).2.2 x9_3 p393 q393
                                              cases e393
                                              replace p393 := eq_true p393
                                              replace q393 := eq_true q393
                                              have p394 : 0 ≤ (x10_5 : Int) := of_decide_eq_true (by first | (with_reducible assumption) | assumption)
                                              have q394 : x10_5 < (t382.length : Int) := of_decide_eq_true (by first | (with_reducible assumption) | assumption)
                                              obtain ⟨ad394, e394, hx394_0⟩ := Kd.at_int (Kd.R_reads' HO_6.out).2.2 x10_5 p394 q394
                                              obtain rfl : ad393 = ad394 := (by injection e394)
                                              replace p394 := eq_true p394
                                              replace q394 := eq_true q394
                                              go_wp2
                                              repeat (go_quiet (fail); try go_wp2)
                                              go_roundg k5
                                              case measure => have := HJ2.out; have := HJ14.out; have := HK3.out; have := HJ21.out; have := HK5.out; omega
                                              case rel => exact ⟨(wrap64 (x10_5 + 1)), (by first | rfl | (simp; done) | (simp [*]; done)), H', ⟨by have := HJ2.out; have := HJ14.out; have := HK3.out; have := HJ21.out; have := HK5.out; omega⟩, ⟨by (with_reducible repeat (first | apply Kd.R_alloc | apply Kd.R_drewN | apply Kd.R_drew)); exact HO_6.out⟩, ⟨by (with_reducible repeat (first | apply Kd.R_alloc | apply Kd.R_drewN | apply Kd.R_drew)); exact HO_7.out⟩, ⟨by repeat (first | (with_reducible first | exact HB.out | apply below_alloc | apply pw_below_drewN | apply below_drew1) | exact HB.out)⟩⟩
                                          · rw [if_neg c33] at H
                                            exact absurd H (by simp)
                                        · rw [if_neg c32] at H
                                          exact absurd H (by simp)
                                      · rw [if_neg c31] at H
                                        exact absurd H (by simp)
                                    · rw [if_neg c30] at H
                                      exact absurd H (by simp)
                                  · rw [if_neg c29] at H
                                    have c29b0 : decide (x10_5 < (t385.length : Int)) = false := decide_eq_false c29
                                    clear c29
                                    have H' := Aside0.mk H
                                    clear H
                                    go_wp2
                                    repeat (go_quiet (fail); try go_wp2)
                                    go_roundg k5
                                    case measure => have := HJ2.out; have := HJ14.out; have := HK3.out; have := HJ21.out; have := HK5.out; omega
                                    case rel => exact ⟨(wrap64 (x9_3 + 1)), (by first | rfl | (simp; done) | (simp [*]; done)), H', ⟨by have := HJ2.out; have := HJ14.out; have := HK3.out; have := HJ21.out; have := HK5.out; omega⟩, ⟨by (with_reducible repeat (first | apply Kd.R_alloc | apply Kd.R_drewN | apply Kd.R_drew)); exact HO_6.out⟩, ⟨by (with_reducible repeat (first | apply Kd.R_alloc | apply Kd.R_drewN | apply Kd.R_drew)); exact HO_7.out⟩, ⟨by repeat (first | (with_reducible first | exact HB.out | apply below_alloc | apply pw_below_drewN | apply below_drew1) | exact HB.out)⟩⟩
                      · rw [if_neg c21] at H
                        have c21b0 : decide (x9_3 < (t385.length : Int)) = false := decide_eq_false c21
                        clear c21
                        have H' := Aside0.mk H
                        clear H
                        obtain ⟨Ao37, co37, eo37⟩ := Kd.R_slice HO_7.out
                        subst eo37
                        go_wp2
                        repeat (go_quiet (fail); try go_wp2)
                        go_meet
                        case rel => exact ⟨_, H', ⟨by have := HJ2.out; have := HJ14.out; have := HK3.out; first | omega | exact Nat.le_refl _⟩, ⟨by repeat (first | (with_reducible first | exact HB.out | apply below_alloc | apply pw_below_drewN | apply below_drew1) | exact HB.out)⟩⟩
          · rw [if_neg c14] at H
            have c14b0 : (t386 == 0) = false := beq_eq_false_iff_ne.mpr c14
            have c14b1 : (t386 != 0) = true := bne_iff_ne.mpr c14
            (first | rw [c14b0] | (simp only [i64_w, i32_w]; rw [c14b0]) | skip)
            have H' := Aside0.mk H
            clear H
            go_wp2
            repeat (go_quiet (fail); try go_wp2)
            go_meet
            case rel => exact ⟨_, H', ⟨by have := HJ2.out; first | omega | exact Nat.le_refl _⟩, ⟨by repeat (first | (with_reducible first | exact HB.out | apply below_alloc | apply pw_below_drewN | apply below_drew1) | exact HB.out)⟩⟩
        case rest =>
          clear HC10
          try clear c1
          try clear c2
          try clear p2
          try clear c3
          try clear p3
          try clear q3
          try clear hx3
          try clear c5
          try clear p6
          try clear c7
          try clear c13
          try clear c14
          try clear c14b0
          try clear c14b1
          try clear c16
          try clear c16b0
          try clear c16b1
          try clear c16b2
          try clear c20
          try clear c21
          try clear c21b0
          try clear c24
          try clear c24b0
          try clear c25
          try clear c25b0
          try clear c26
          try clear c26b0
          try clear c27
          try clear c27b0
          try clear c27b1
          try clear c28
          try clear c29
          try clear c29b0
          try clear c30
          try clear c30b0
          try clear c31
          try clear c31b0
          try clear c32
          try clear c32b0
          try clear c33
          try clear c33b0
          try clear c34
          try clear c34b0
          try clear c35
          try clear c35b0
          try clear c36
          try clear c36b0
          try clear hx390_0
          try clear hx391_0
          try clear hx392_0
          try clear hx393_0
          try clear hx394_0
          try clear hx395_0
          try clear hx396_0
          try clear p2
          try clear p3
          try clear p390
          try clear p391
          try clear p392
          try clear p393
          try clear p394
          try clear p395
          try clear p396
          try clear q3
          try clear q390
          try clear q391
          try clear q392
          try clear q393
          try clear q394
          try clear q395
          try clear q396
          obtain ⟨kq, HA, HJ9, HB⟩ := hcut
          cases kq with
          | zero => exact absurd HA.out (by simp [laws_FnShares.j5])
          | succ kj9 =>
            have H := HA.out
            clear HA
            simp only [laws_FnShares.j5] at H
            replace H := Option.bind_eq_some_iff.mp H
            obtain ⟨⟨t397, t398, t399⟩, A380, H⟩ := H
            replace H : ((impl_HeatBill.f kj9 t397 t398 t399).bind fun bt402 => ((impl_LargestShare.f kj9 t397 t398 t399).bind fun bt406 => (if bt402.2 = bt406.2.2 then (if bt402.2 = 0 then (if (bt402.1.length : Int) = (t397.length : Int) then ((laws_b10Sum.f kj9 bt402.1).bind fun t409 => (if t409 = t398 then (if bt406.1 < 0 then (laws_FnShares.j6 kj9 bt402.1 bt406.2.1 true) else (if bt406.1 ≥ (bt402.1.length : Int) then (laws_FnShares.j6 kj9 bt402.1 bt406.2.1 true) else (if 0 ≤ bt406.1 then (if bt406.1 < (bt402.1.length : Int) then (laws_FnShares.j6 kj9 bt402.1 bt406.2.1 ((rd bt402.1 bt406.1) != bt406.2.1)) else (none)) else (none)))) else (laws_FnShares.j6 kj9 bt402.1 bt406.2.1 true))) else (laws_FnShares.j6 kj9 bt402.1 bt406.2.1 true)) else (if (bt402.1.length : Int) = 0 then (if bt406.1 = 0 then (some (bt406.2.1 == 0)) else (some false)) else (some false))) else (some false)))) = some r := H
            have A38 := Aside0.mk A380
            clear A380
            replace H := Option.bind_eq_some_iff.mp H
            obtain ⟨⟨t402, t403⟩, A390, H⟩ := H
            replace H : ((impl_LargestShare.f kj9 t397 t398 t399).bind fun bt406 => (if t403 = bt406.2.2 then (if t403 = 0 then (if (t402.length : Int) = (t397.length : Int) then ((laws_b10Sum.f kj9 t402).bind fun t409 => (if t409 = t398 then (if bt406.1 < 0 then (laws_FnShares.j6 kj9 t402 bt406.2.1 true) else (if bt406.1 ≥ (t402.length : Int) then (laws_FnShares.j6 kj9 t402 bt406.2.1 true) else (if 0 ≤ bt406.1 then (if bt406.1 < (t402.length : Int) then (laws_FnShares.j6 kj9 t402 bt406.2.1 ((rd t402 bt406.1) != bt406.2.1)) else (none)) else (none)))) else (laws_FnShares.j6 kj9 t402 bt406.2.1 true))) else (laws_FnShares.j6 kj9 t402 bt406.2.1 true)) else (if (t402.length : Int) = 0 then (if bt406.1 = 0 then (some (bt406.2.1 == 0)) else (some false)) else (some false))) else (some false))) = some r := H
            have A39 := Aside0.mk A390
            clear A390
            replace H := Option.bind_eq_some_iff.mp H
            obtain ⟨⟨t406, t407, t408⟩, A400, H⟩ := H
            replace H : (if t403 = t408 then (if t403 = 0 then (if (t402.length : Int) = (t397.length : Int) then ((laws_b10Sum.f kj9 t402).bind fun t409 => (if t409 = t398 then (if t406 < 0 then (laws_FnShares.j6 kj9 t402 t407 true) else (if t406 ≥ (t402.length : Int) then (laws_FnShares.j6 kj9 t402 t407 true) else (if 0 ≤ t406 then (if t406 < (t402.length : Int) then (laws_FnShares.j6 kj9 t402 t407 ((rd t402 t406) != t407)) else (none)) else (none)))) else (laws_FnShares.j6 kj9 t402 t407 true))) else (laws_FnShares.j6 kj9 t402 t407 true)) else (if (t402.length : Int) = 0 then (if t406 = 0 then (some (t407 == 0)) else (some false)) else (some false))) else (some false)) = some r := H
            have A40 := Aside0.mk A400
            clear A400
            by_cases c41 : t403 = t408
            · as_aux_lemma =>
              rw [if_pos c41] at H
              have c41b0 : (t403 == t408) = true := beq_iff_eq.mpr c41
              have c41b1 : (t403 != t408) = false := bne_eq_false_iff_eq.mpr c41
              clear c41
              by_cases c42 : t403 = 0
              · as_aux_lemma =>
                rw [if_pos c42] at H
                have c42b0 : (t403 == 0) = true := beq_iff_eq.mpr c42
                have c42b1 : (t403 != 0) = false := bne_eq_false_iff_eq.mpr c42
                clear c42
                have HC43 := Aside0.mk H
                clear H
                go_upto_region 25 with (first | (go_at_call 79; (with_reducible refine (spec_DrawLargestShare.calls kj9 _ _ l1 t397 t398 t399 _ ?side1 ?side2 A38.out).mono ?_); (case side1 => repeat (first | exact (Kd.C_below HR1.out HB.out) | (with_reducible refine Kd.C_alloc ?_ _) | (with_reducible refine Kd.C_drewN ?_ _) | (with_reducible refine Kd.C_drew ?_))); (case side2 => exact HC1.out); rintro e w44 ⟨v400, rfl, ho0, hb⟩; have n0_ := Aside0.mk (Kd.R_lower ho0 (below_size (by repeat (first | (with_reducible first | exact HB.out | apply below_alloc | apply pw_below_drewN | apply below_drew1) | exact HB.out)))); have n1_ := Aside0.mk (below_step (by repeat (first | (with_reducible first | exact HB.out | apply below_alloc | apply pw_below_drewN | apply below_drew1) | exact HB.out)) hb); clear HB; have HO401 := n0_; have HB := n1_; clear n0_ n1_; (try clear hb); (try clear hb2); (try clear hk); (try clear hi); (try clear ho0); obtain ⟨Ao45, co45, eo45⟩ := Kd.R_slice HO401.out; subst eo45) | (go_at_call 80; (with_reducible refine (impl_HeatBill.calls kj9 _ _ t397 t398 t399 t402 t403 _ ?side1 ?side2 A39.out).mono ?_); (case side1 => repeat (first | exact (Kd.R_reads' HO401.out).2.2 | (with_reducible refine Kd.C_alloc ?_ _) | (with_reducible refine Kd.C_drewN ?_ _) | (with_reducible refine Kd.C_drew ?_))); (case side2 => exact (Kd.R_reads' HO401.out).2.1); rintro e w46 ⟨v404, rfl, ho0, hb⟩; have n0_ := Aside0.mk (Kd.R_below (by (with_reducible repeat (first | apply Kd.R_alloc | apply Kd.R_drewN | apply Kd.R_drew)); exact HO401.out) hb); have n1_ := Aside0.mk (Kd.R_lower ho0 (below_size (by repeat (first | (with_reducible first | exact HB.out | apply below_alloc | apply pw_below_drewN | apply below_drew1) | exact HB.out)))); have n2_ := Aside0.mk (below_step (by repeat (first | (with_reducible first | exact HB.out | apply below_alloc | apply pw_below_drewN | apply below_drew1) | exact HB.out)) hb); clear HO401; clear HB; have HO401 := n0_; have HO405 := n1_; have HB := n2_; clear n0_ n1_ n2_; (try clear hb); (try clear hb2); (try clear hk); (try clear hi); (try clear ho0)) | (go_at_call 81; (with_reducible refine (impl_LargestShare.calls kj9 _ _ t397 t398 t399 t406 t407 t408 _ ?side1 ?side2 A40.out).mono ?_); (case side1 => repeat (first | exact (Kd.R_reads' HO401.out).2.2 | (with_reducible refine Kd.C_alloc ?_ _) | (with_reducible refine Kd.C_drewN ?_ _) | (with_reducible refine Kd.C_drew ?_))); (case side2 => exact (Kd.R_reads' HO401.out).2.1); rintro e w47 ⟨rfl, hb⟩; have n0_ := Aside0.mk (Kd.R_below (by (with_reducible repeat (first | apply Kd.R_alloc | apply Kd.R_drewN | apply Kd.R_drew)); exact HO401.out) hb); have n1_ := Aside0.mk (Kd.R_below (by (with_reducible repeat (first | apply Kd.R_alloc | apply Kd.R_drewN | apply Kd.R_drew)); exact HO405.out) hb); have n2_ := Aside0.mk (below_step (by repeat (first | (with_reducible first | exact HB.out | apply below_alloc | apply pw_below_drewN | apply below_drew1) | exact HB.out)) hb); clear HO401; clear HO405; clear HB; have HO401 := n0_; have HO405 := n1_; have HB := n2_; clear n0_ n1_ n2_; (try clear hb); (try clear hb2); (try clear hk); (try clear hi)))
                repeat (go_quiet (first | (go_at_call 79; (first | (with_reducible refine (spec_DrawLargestShare.calls kj9 _ _ l1 t397 t398 t399 _ ?side1 ?side2 A38.out).mono ?_) | ((try simp only [Go.IntWalk.i64_left]); (with_reducible refine (spec_DrawLargestShare.calls kj9 _ _ l1 t397 t398 t399 _ ?side1 ?side2 A38.out).mono ?_))); (case side1 => repeat (first | exact (Kd.C_below HR1.out HB.out) | (with_reducible refine Kd.C_alloc ?_ _) | (with_reducible refine Kd.C_drewN ?_ _) | (with_reducible refine Kd.C_drew ?_))); (case side2 => exact HC1.out); rintro e w44 ⟨v400, rfl, ho0, hb⟩; have n0_ := Aside0.mk (Kd.R_lower ho0 (below_size (by repeat (first | (with_reducible first | exact HB.out | apply below_alloc | apply pw_below_drewN | apply below_drew1) | exact HB.out)))); have n1_ := Aside0.mk (below_step (by repeat (first | (with_reducible first | exact HB.out | apply below_alloc | apply pw_below_drewN | apply below_drew1) | exact HB.out)) hb); clear HB; have HO401 := n0_; have HB := n1_; clear n0_ n1_; (try clear hb); (try clear hb2); (try clear hk); (try clear hi); (try clear ho0); obtain ⟨Ao45, co45, eo45⟩ := Kd.R_slice HO401.out; subst eo45) | (go_at_call 80; (first | (with_reducible refine (impl_HeatBill.calls kj9 _ _ t397 t398 t399 t402 t403 _ ?side1 ?side2 A39.out).mono ?_) | ((try simp only [Go.IntWalk.i64_left]); (with_reducible refine (impl_HeatBill.calls kj9 _ _ t397 t398 t399 t402 t403 _ ?side1 ?side2 A39.out).mono ?_))); (case side1 => repeat (first | exact (Kd.R_reads' HO401.out).2.2 | (with_reducible refine Kd.C_alloc ?_ _) | (with_reducible refine Kd.C_drewN ?_ _) | (with_reducible refine Kd.C_drew ?_))); (case side2 => exact (Kd.R_reads' HO401.out).2.1); rintro e w46 ⟨v404, rfl, ho0, hb⟩; have n0_ := Aside0.mk (Kd.R_below (by (with_reducible repeat (first | apply Kd.R_alloc | apply Kd.R_drewN | apply Kd.R_drew)); exact HO401.out) hb); have n1_ := Aside0.mk (Kd.R_lower ho0 (below_size (by repeat (first | (with_reducible first | exact HB.out | apply below_alloc | apply pw_below_drewN | apply below_drew1) | exact HB.out)))); have n2_ := Aside0.mk (below_step (by repeat (first | (with_reducible first | exact HB.out | apply below_alloc | apply pw_below_drewN | apply below_drew1) | exact HB.out)) hb); clear HO401; clear HB; have HO401 := n0_; have HO405 := n1_; have HB := n2_; clear n0_ n1_ n2_; (try clear hb); (try clear hb2); (try clear hk); (try clear hi); (try clear ho0)) | (go_at_call 81; (first | (with_reducible refine (impl_LargestShare.calls kj9 _ _ t397 t398 t399 t406 t407 t408 _ ?side1 ?side2 A40.out).mono ?_) | ((try simp only [Go.IntWalk.i64_left]); (with_reducible refine (impl_LargestShare.calls kj9 _ _ t397 t398 t399 t406 t407 t408 _ ?side1 ?side2 A40.out).mono ?_))); (case side1 => repeat (first | exact (Kd.R_reads' HO401.out).2.2 | (with_reducible refine Kd.C_alloc ?_ _) | (with_reducible refine Kd.C_drewN ?_ _) | (with_reducible refine Kd.C_drew ?_))); (case side2 => exact (Kd.R_reads' HO401.out).2.1); rintro e w47 ⟨rfl, hb⟩; have n0_ := Aside0.mk (Kd.R_below (by (with_reducible repeat (first | apply Kd.R_alloc | apply Kd.R_drewN | apply Kd.R_drew)); exact HO401.out) hb); have n1_ := Aside0.mk (Kd.R_below (by (with_reducible repeat (first | apply Kd.R_alloc | apply Kd.R_drewN | apply Kd.R_drew)); exact HO405.out) hb); have n2_ := Aside0.mk (below_step (by repeat (first | (with_reducible first | exact HB.out | apply below_alloc | apply pw_below_drewN | apply below_drew1) | exact HB.out)) hb); clear HO401; clear HO405; clear HB; have HO401 := n0_; have HO405 := n1_; have HB := n2_; clear n0_ n1_ n2_; (try clear hb); (try clear hb2); (try clear hk); (try clear hi))); go_upto_region 25 with (first | (go_at_call 79; (first | (with_reducible refine (spec_DrawLargestShare.calls kj9 _ _ l1 t397 t398 t399 _ ?side1 ?side2 A38.out).mono ?_) | ((try simp only [Go.IntWalk.i64_left]); (with_reducible refine (spec_DrawLargestShare.calls kj9 _ _ l1 t397 t398 t399 _ ?side1 ?side2 A38.out).mono ?_))); (case side1 => repeat (first | exact (Kd.C_below HR1.out HB.out) | (with_reducible refine Kd.C_alloc ?_ _) | (with_reducible refine Kd.C_drewN ?_ _) | (with_reducible refine Kd.C_drew ?_))); (case side2 => exact HC1.out); rintro e w44 ⟨v400, rfl, ho0, hb⟩; have n0_ := Aside0.mk (Kd.R_lower ho0 (below_size (by repeat (first | (with_reducible first | exact HB.out | apply below_alloc | apply pw_below_drewN | apply below_drew1) | exact HB.out)))); have n1_ := Aside0.mk (below_step (by repeat (first | (with_reducible first | exact HB.out | apply below_alloc | apply pw_below_drewN | apply below_drew1) | exact HB.out)) hb); clear HB; have HO401 := n0_; have HB := n1_; clear n0_ n1_; (try clear hb); (try clear hb2); (try clear hk); (try clear hi); (try clear ho0); obtain ⟨Ao45, co45, eo45⟩ := Kd.R_slice HO401.out; subst eo45) | (go_at_call 80; (first | (with_reducible refine (impl_HeatBill.calls kj9 _ _ t397 t398 t399 t402 t403 _ ?side1 ?side2 A39.out).mono ?_) | ((try simp only [Go.IntWalk.i64_left]); (with_reducible refine (impl_HeatBill.calls kj9 _ _ t397 t398 t399 t402 t403 _ ?side1 ?side2 A39.out).mono ?_))); (case side1 => repeat (first | exact (Kd.R_reads' HO401.out).2.2 | (with_reducible refine Kd.C_alloc ?_ _) | (with_reducible refine Kd.C_drewN ?_ _) | (with_reducible refine Kd.C_drew ?_))); (case side2 => exact (Kd.R_reads' HO401.out).2.1); rintro e w46 ⟨v404, rfl, ho0, hb⟩; have n0_ := Aside0.mk (Kd.R_below (by (with_reducible repeat (first | apply Kd.R_alloc | apply Kd.R_drewN | apply Kd.R_drew)); exact HO401.out) hb); have n1_ := Aside0.mk (Kd.R_lower ho0 (below_size (by repeat (first | (with_reducible first | exact HB.out | apply below_alloc | apply pw_below_drewN | apply below_drew1) | exact HB.out)))); have n2_ := Aside0.mk (below_step (by repeat (first | (with_reducible first | exact HB.out | apply below_alloc | apply pw_below_drewN | apply below_drew1) | exact HB.out)) hb); clear HO401; clear HB; have HO401 := n0_; have HO405 := n1_; have HB := n2_; clear n0_ n1_ n2_; (try clear hb); (try clear hb2); (try clear hk); (try clear hi); (try clear ho0)) | (go_at_call 81; (first | (with_reducible refine (impl_LargestShare.calls kj9 _ _ t397 t398 t399 t406 t407 t408 _ ?side1 ?side2 A40.out).mono ?_) | ((try simp only [Go.IntWalk.i64_left]); (with_reducible refine (impl_LargestShare.calls kj9 _ _ t397 t398 t399 t406 t407 t408 _ ?side1 ?side2 A40.out).mono ?_))); (case side1 => repeat (first | exact (Kd.R_reads' HO401.out).2.2 | (with_reducible refine Kd.C_alloc ?_ _) | (with_reducible refine Kd.C_drewN ?_ _) | (with_reducible refine Kd.C_drew ?_))); (case side2 => exact (Kd.R_reads' HO401.out).2.1); rintro e w47 ⟨rfl, hb⟩; have n0_ := Aside0.mk (Kd.R_below (by (with_reducible repeat (first | apply Kd.R_alloc | apply Kd.R_drewN | apply Kd.R_drew)); exact HO401.out) hb); have n1_ := Aside0.mk (Kd.R_below (by (with_reducible repeat (first | apply Kd.R_alloc | apply Kd.R_drewN | apply Kd.R_drew)); exact HO405.out) hb); have n2_ := Aside0.mk (below_step (by repeat (first | (with_reducible first | exact HB.out | apply below_alloc | apply pw_below_drewN | apply below_drew1) | exact HB.out)) hb); clear HO401; clear HO405; clear HB; have HO401 := n0_; have HO405 := n1_; have HB := n2_; clear n0_ n1_ n2_; (try clear hb); (try clear hb2); (try clear hk); (try clear hi))))
                (try simp only [Act.put, List.setIfInBounds_toArray, List.set_cons_zero, List.set_cons_succ])
                go_cut [167] (fun v167 wc => ∃ (kq : Nat) (x167_42 : Bool), v167 = .bool x167_42 ∧ Aside0 (laws_FnShares.j6 kq t402 t407 x167_42 = some r) ∧ Aside0 (kq ≤ kj9) ∧ Aside0 (Kd.R (Kd.int .i64) 2 wc w.heap.size (fun _ => True) v404 t402) ∧ Aside0 (Below w.heap.size w wc))
                case first =>
                  have H := HC43.out
                  clear HC43
                  by_cases c48 : (t402.length : Int) = (t397.length : Int)
                  · as_aux_lemma =>
                    rw [if_pos c48] at H
                    have c48b0 : ((t402.length : Int) == (t397.length : Int)) = true := beq_iff_eq.mpr c48
                    have c48b1 : ((t402.length : Int) != (t397.length : Int)) = false := bne_eq_false_iff_eq.mpr c48
                    have c48b2 : (t402.length == t397.length) = true := by first | simpa using c48 | (simp at c48 ⊢; omega)
                    clear c48
                    (first | rw [c48b0] | (simp only [i64_w, i32_w]; rw [c48b0]) | skip)
                    replace H := Option.bind_eq_some_iff.mp H
                    obtain ⟨t409, A490, H⟩ := H
                    replace H : (if t409 = t398 then (if t406 < 0 then (laws_FnShares.j6 kj9 t402 t407 true) else (if t406 ≥ (t402.length : Int) then (laws_FnShares.j6 kj9 t402 t407 true) else (if 0 ≤ t406 then (if t406 < (t402.length : Int) then (laws_FnShares.j6 kj9 t402 t407 ((rd t402 t406) != t407)) else (none)) else (none)))) else (laws_FnShares.j6 kj9 t402 t407 true)) = some r := H
                    have A49 := Aside0.mk A490
                    clear A490
                    by_cases c50 : t409 = t398
                    · as_aux_lemma =>
                      rw [if_pos c50] at H
                      have c50b0 : (t409 == t398) = true := beq_iff_eq.mpr c50
                      have c50b1 : (t409 != t398) = false := bne_eq_false_iff_eq.mpr c50
                      clear c50
                      by_cases c51 : t406 < 0
                      · rw [if_pos c51] at H
                        have c51b0 : decide (t406 < 0) = true := decide_eq_true c51
                        clear c51
                        have H' := Aside0.mk H
                        clear H
                        obtain ⟨Ao52, co52, eo52⟩ := Kd.R_slice HO405.out
                        subst eo52
                        go_wp2_with (first | (go_at_call 78; (first | (with_reducible refine (laws_b10Sum.calls kj9 _ _ t402 t409 _ ?side1 ?side2 A49.out).mono ?_) | ((try simp only [Go.IntWalk.i64_left]); (with_reducible refine (laws_b10Sum.calls kj9 _ _ t402 t409 _ ?side1 ?side2 A49.out).mono ?_))); (case side1 => repeat (first | exact (Kd.R_reads' HO405.out).2.2 | (with_reducible refine Kd.C_alloc ?_ _) | (with_reducible refine Kd.C_drewN ?_ _) | (with_reducible refine Kd.C_drew ?_))); (case side2 => exact (Kd.R_reads' HO405.out).2.1); rintro e w' ⟨rfl, ⟨nd, rfl⟩⟩; (try first | exact ⟨rfl, _, World.drewN_drewN _ _ _⟩ | exact ⟨rfl, _, Eq.trans (World.drewN_drewN _ _ _) (congrArg (World.drewN _) (Nat.add_assoc _ _ _))⟩)))
                        repeat (go_quiet (first | (go_at_call 78; (first | (with_reducible refine (laws_b10Sum.calls kj9 _ _ t402 t409 _ ?side1 ?side2 A49.out).mono ?_) | ((try simp only [Go.IntWalk.i64_left]); (with_reducible refine (laws_b10Sum.calls kj9 _ _ t402 t409 _ ?side1 ?side2 A49.out).mono ?_))); (case side1 => repeat (first | exact (Kd.R_reads' HO405.out).2.2 | (with_reducible refine Kd.C_alloc ?_ _) | (with_reducible refine Kd.C_drewN ?_ _) | (with_reducible refine Kd.C_drew ?_))); (case side2 => exact (Kd.R_reads' HO405.out).2.1); rintro e w' ⟨rfl, ⟨nd, rfl⟩⟩; (try first | exact ⟨rfl, _, World.drewN_drewN _ _ _⟩ | exact ⟨rfl, _, Eq.trans (World.drewN_drewN _ _ _) (congrArg (World.drewN _) (Nat.add_assoc _ _ _))⟩))); try go_wp2_with (first | (go_at_call 78; (first | (with_reducible refine (laws_b10Sum.calls kj9 _ _ t402 t409 _ ?side1 ?side2 A49.out).mono ?_) | ((try simp only [Go.IntWalk.i64_left]); (with_reducible refine (laws_b10Sum.calls kj9 _ _ t402 t409 _ ?side1 ?side2 A49.out).mono ?_))); (case side1 => repeat (first | exact (Kd.R_reads' HO405.out).2.2 | (with_reducible refine Kd.C_alloc ?_ _) | (with_reducible refine Kd.C_drewN ?_ _) | (with_reducible refine Kd.C_drew ?_))); (case side2 => exact (Kd.R_reads' HO405.out).2.1); rintro e w' ⟨rfl, ⟨nd, rfl⟩⟩; (try first | exact ⟨rfl, _, World.drewN_drewN _ _ _⟩ | exact ⟨rfl, _, Eq.trans (World.drewN_drewN _ _ _) (congrArg (World.drewN _) (Nat.add_assoc _ _ _))⟩))))
                        go_meet
                        case rel => exact ⟨_, (true), (by first | rfl | (simp; done) | (simp [*]; done)), H', ⟨by have := HJ2.out; have := HJ9.out; first | omega | exact Nat.le_refl _⟩, ⟨by (with_reducible repeat (first | apply Kd.R_alloc | apply Kd.R_drewN | apply Kd.R_drew)); exact HO405.out⟩, ⟨by repeat (first | (with_reducible first | exact HB.out | apply below_alloc | apply pw_below_drewN | apply below_drew1) | exact HB.out)⟩⟩
                      · rw [if_neg c51] at H
                        have c51b0 : decide (t406 < 0) = false := decide_eq_false c51
                        clear c51
                        by_cases c53 : t406 ≥ (t402.length : Int)
                        · rw [if_pos c53] at H
                          have c53b0 : decide ((t402.length : Int) ≤ t406) = true := decide_eq_true c53
                          clear c53
                          have H' := Aside0.mk H
                          clear H
                          obtain ⟨Ao54, co54, eo54⟩ := Kd.R_slice HO405.out
                          subst eo54
                          go_wp2_with (first | (go_at_call 78; (first | (with_reducible refine (laws_b10Sum.calls kj9 _ _ t402 t409 _ ?side1 ?side2 A49.out).mono ?_) | ((try simp only [Go.IntWalk.i64_left]); (with_reducible refine (laws_b10Sum.calls kj9 _ _ t402 t409 _ ?side1 ?side2 A49.out).mono ?_))); (case side1 => repeat (first | exact (Kd.R_reads' HO405.out).2.2 | (with_reducible refine Kd.C_alloc ?_ _) | (with_reducible refine Kd.C_drewN ?_ _) | (with_reducible refine Kd.C_drew ?_))); (case side2 => exact (Kd.R_reads' HO405.out).2.1); rintro e w' ⟨rfl, ⟨nd, rfl⟩⟩; (try first | exact ⟨rfl, _, World.drewN_drewN _ _ _⟩ | exact ⟨rfl, _, Eq.trans (World.drewN_drewN _ _ _) (congrArg (World.drewN _) (Nat.add_assoc _ _ _))⟩)))
                          repeat (go_quiet (first | (go_at_call 78; (first | (with_reducible refine (laws_b10Sum.calls kj9 _ _ t402 t409 _ ?side1 ?side2 A49.out).mono ?_) | ((try simp only [Go.IntWalk.i64_left]); (with_reducible refine (laws_b10Sum.calls kj9 _ _ t402 t409 _ ?side1 ?side2 A49.out).mono ?_))); (case side1 => repeat (first | exact (Kd.R_reads' HO405.out).2.2 | (with_reducible refine Kd.C_alloc ?_ _) | (with_reducible refine Kd.C_drewN ?_ _) | (with_reducible refine Kd.C_drew ?_))); (case side2 => exact (Kd.R_reads' HO405.out).2.1); rintro e w' ⟨rfl, ⟨nd, rfl⟩⟩; (try first | exact ⟨rfl, _, World.drewN_drewN _ _ _⟩ | exact ⟨rfl, _, Eq.trans (World.drewN_drewN _ _ _) (congrArg (World.drewN _) (Nat.add_assoc _ _ _))⟩))); try go_wp2_with (first | (go_at_call 78; (first | (with_reducible refine (laws_b10Sum.calls kj9 _ _ t402 t409 _ ?side1 ?side2 A49.out).mono ?_) | ((try simp only [Go.IntWalk.i64_left]); (with_reducible refine (laws_b10Sum.calls kj9 _ _ t402 t409 _ ?side1 ?side2 A49.out).mono ?_))); (case side1 => repeat (first | exact (Kd.R_reads' HO405.out).2.2 | (with_reducible refine Kd.C_alloc ?_ _) | (with_reducible refine Kd.C_drewN ?_ _) | (with_reducible refine Kd.C_drew ?_))); (case side2 => exact (Kd.R_reads' HO405.out).2.1); rintro e w' ⟨rfl, ⟨nd, rfl⟩⟩; (try first | exact ⟨rfl, _, World.drewN_drewN _ _ _⟩ | exact ⟨rfl, _, Eq.trans (World.drewN_drewN _ _ _) (congrArg (World.drewN _) (Nat.add_assoc _ _ _))⟩))))
                          go_meet
                          case rel => exact ⟨_, (true), (by first | rfl | (simp; done) | (simp [*]; done)), H', ⟨by have := HJ2.out; have := HJ9.out; first | omega | exact Nat.le_refl _⟩, ⟨by (with_reducible repeat (first | apply Kd.R_alloc | apply Kd.R_drewN | apply Kd.R_drew)); exact HO405.out⟩, ⟨by repeat (first | (with_reducible first | exact HB.out | apply below_alloc | apply pw_below_drewN | apply below_drew1) | exact HB.out)⟩⟩
                        · rw [if_neg c53] at H
                          have c53b0 : decide ((t402.length : Int) ≤ t406) = false := decide_eq_false c53
                          clear c53
                          by_cases c55 : 0 ≤ t406
                          · rw [if_pos c55] at H
                            have c55b0 : decide (0 ≤ t406) = true := decide_eq_true c55
                            clear c55
                            by_cases c56 : t406 < (t402.length : Int)
                            · rw [if_pos c56] at H
                              have c56b0 : decide (t406 < (t402.length : Int)) = true := decide_eq_true c56
                              clear c56
                              have H' := Aside0.mk H
                              clear H
                              obtain ⟨Ao57, co57, eo57⟩ := Kd.R_slice HO405.out
                              subst eo57
                              have p410 : 0 ≤ (t406 : Int) := of_decide_eq_true (by first | (with_reducible assumption) | assumption)
                              have q410 : t406 < (t402.length : Int) := of_decide_eq_true (by first | (with_reducible assumption) | assumption)
                              obtain ⟨ad410, e410, hx410_0⟩ := Kd.at_int (Kd.R_reads' HO405.out).2.2 t406 p410 q410
                              cases e410
                              replace p410 := eq_true p410
                              replace q410 := eq_true q410
                              go_wp2_with (first | (go_at_call 78; (first | (with_reducible refine (laws_b10Sum.calls kj9 _ _ t402 t409 _ ?side1 ?side2 A49.out).mono ?_) | ((try simp only [Go.IntWalk.i64_left]); (with_reducible refine (laws_b10Sum.calls kj9 _ _ t402 t409 _ ?side1 ?side2 A49.out).mono ?_))); (case side1 => repeat (first | exact (Kd.R_reads' HO405.out).2.2 | (with_reducible refine Kd.C_alloc ?_ _) | (with_reducible refine Kd.C_drewN ?_ _) | (with_reducible refine Kd.C_drew ?_))); (case side2 => exact (Kd.R_reads' HO405.out).2.1); rintro e w' ⟨rfl, ⟨nd, rfl⟩⟩; (try first | exact ⟨rfl, _, World.drewN_drewN _ _ _⟩ | exact ⟨rfl, _, Eq.trans (World.drewN_drewN _ _ _) (congrArg (World.drewN _) (Nat.add_assoc _ _ _))⟩)))
                              repeat (go_quiet (first | (go_at_call 78; (first | (with_reducible refine (laws_b10Sum.calls kj9 _ _ t402 t409 _ ?side1 ?side2 A49.out).mono ?_) | ((try simp only [Go.IntWalk.i64_left]); (with_reducible refine (laws_b10Sum.calls kj9 _ _ t402 t409 _ ?side1 ?side2 A49.out).mono ?_))); (case side1 => repeat (first | exact (Kd.R_reads' HO405.out).2.2 | (with_reducible refine Kd.C_alloc ?_ _) | (with_reducible refine Kd.C_drewN ?_ _) | (with_reducible refine Kd.C_drew ?_))); (case side2 => exact (Kd.R_reads' HO405.out).2.1); rintro e w' ⟨rfl, ⟨nd, rfl⟩⟩; (try first | exact ⟨rfl, _, World.drewN_drewN _ _ _⟩ | exact ⟨rfl, _, Eq.trans (World.drewN_drewN _ _ _) (congrArg (World.drewN _) (Nat.add_assoc _ _ _))⟩))); try go_wp2_with (first | (go_at_call 78; (first | (with_reducible refine (laws_b10Sum.calls kj9 _ _ t402 t409 _ ?side1 ?side2 A49.out).mono ?_) | ((try simp only [Go.IntWalk.i64_left]); (with_reducible refine (laws_b10Sum.calls kj9 _ _ t402 t409 _ ?side1 ?side2 A49.out).mono ?_))); (case side1 => repeat (first | exact (Kd.R_reads' HO405.out).2.2 | (with_reducible refine Kd.C_alloc ?_ _) | (with_reducible refine Kd.C_drewN ?_ _) | (with_reducible refine Kd.C_drew ?_))); (case side2 => exact (Kd.R_reads' HO405.out).2.1); rintro e w' ⟨rfl, ⟨nd, rfl⟩⟩; (try first | exact ⟨rfl, _, World.drewN_drewN _ _ _⟩ | exact ⟨rfl, _, Eq.trans (World.drewN_drewN _ _ _) (congrArg (World.drewN _) (Nat.add_assoc _ _ _))⟩))))
                              go_meet
                              case rel => exact ⟨_, (((rd t402 t406) != t407)), (by first | rfl | (simp; done) | (simp [*]; done)), H', ⟨by have := HJ2.out; have := HJ9.out; first | omega | exact Nat.le_refl _⟩, ⟨by (with_reducible repeat (first | apply Kd.R_alloc | apply Kd.R_drewN | apply Kd.R_drew)); exact HO405.out⟩, ⟨by repeat (first | (with_reducible first | exact HB.out | apply below_alloc | apply pw_below_drewN | apply below_drew1) | exact HB.out)⟩⟩
                            · rw [if_neg c56] at H
                              exact absurd H (by simp)
                          · rw [if_neg c55] at H
                            exact absurd H (by simp)
                    · rw [if_neg c50] at H
                      have c50b0 : (t409 == t398) = false := beq_eq_false_iff_ne.mpr c50
                      have c50b1 : (t409 != t398) = true := bne_iff_ne.mpr c50
                      have H' := Aside0.mk H
                      clear H
                      obtain ⟨Ao58, co58, eo58⟩ := Kd.R_slice HO405.out
                      subst eo58
                      go_wp2_with (first | (go_at_call 78; (first | (with_reducible refine (laws_b10Sum.calls kj9 _ _ t402 t409 _ ?side1 ?side2 A49.out).mono ?_) | ((try simp only [Go.IntWalk.i64_left]); (with_reducible refine (laws_b10Sum.calls kj9 _ _ t402 t409 _ ?side1 ?side2 A49.out).mono ?_))); (case side1 => repeat (first | exact (Kd.R_reads' HO405.out).2.2 | (with_reducible refine Kd.C_alloc ?_ _) | (with_reducible refine Kd.C_drewN ?_ _) | (with_reducible refine Kd.C_drew ?_))); (case side2 => exact (Kd.R_reads' HO405.out).2.1); rintro e w' ⟨rfl, ⟨nd, rfl⟩⟩; (try first | exact ⟨rfl, _, World.drewN_drewN _ _ _⟩ | exact ⟨rfl, _, Eq.trans (World.drewN_drewN _ _ _) (congrArg (World.drewN _) (Nat.add_assoc _ _ _))⟩)))
                      repeat (go_quiet (first | (go_at_call 78; (first | (with_reducible refine (laws_b10Sum.calls kj9 _ _ t402 t409 _ ?side1 ?side2 A49.out).mono ?_) | ((try simp only [Go.IntWalk.i64_left]); (with_reducible refine (laws_b10Sum.calls kj9 _ _ t402 t409 _ ?side1 ?side2 A49.out).mono ?_))); (case side1 => repeat (first | exact (Kd.R_reads' HO405.out).2.2 | (with_reducible refine Kd.C_alloc ?_ _) | (with_reducible refine Kd.C_drewN ?_ _) | (with_reducible refine Kd.C_drew ?_))); (case side2 => exact (Kd.R_reads' HO405.out).2.1); rintro e w' ⟨rfl, ⟨nd, rfl⟩⟩; (try first | exact ⟨rfl, _, World.drewN_drewN _ _ _⟩ | exact ⟨rfl, _, Eq.trans (World.drewN_drewN _ _ _) (congrArg (World.drewN _) (Nat.add_assoc _ _ _))⟩))); try go_wp2_with (first | (go_at_call 78; (first | (with_reducible refine (laws_b10Sum.calls kj9 _ _ t402 t409 _ ?side1 ?side2 A49.out).mono ?_) | ((try simp only [Go.IntWalk.i64_left]); (with_reducible refine (laws_b10Sum.calls kj9 _ _ t402 t409 _ ?side1 ?side2 A49.out).mono ?_))); (case side1 => repeat (first | exact (Kd.R_reads' HO405.out).2.2 | (with_reducible refine Kd.C_alloc ?_ _) | (with_reducible refine Kd.C_drewN ?_ _) | (with_reducible refine Kd.C_drew ?_))); (case side2 => exact (Kd.R_reads' HO405.out).2.1); rintro e w' ⟨rfl, ⟨nd, rfl⟩⟩; (try first | exact ⟨rfl, _, World.drewN_drewN _ _ _⟩ | exact ⟨rfl, _, Eq.trans (World.drewN_drewN _ _ _) (congrArg (World.drewN _) (Nat.add_assoc _ _ _))⟩))))
                      go_meet
                      case rel => exact ⟨_, (true), (by first | rfl | (simp; done) | (simp [*]; done)), H', ⟨by have := HJ2.out; have := HJ9.out; first | omega | exact Nat.le_refl _⟩, ⟨by (with_reducible repeat (first | apply Kd.R_alloc | apply Kd.R_drewN | apply Kd.R_drew)); exact HO405.out⟩, ⟨by repeat (first | (with_reducible first | exact HB.out | apply below_alloc | apply pw_below_drewN | apply below_drew1) | exact HB.out)⟩⟩
                  · rw [if_neg c48] at H
                    have c48b0 : ((t402.length : Int) == (t397.length : Int)) = false := beq_eq_false_iff_ne.mpr c48
                    have c48b1 : ((t402.length : Int) != (t397.length : Int)) = true := bne_iff_ne.mpr c48
                    have c48b2 : (t402.length == t397.length) = false := by first | simpa using c48 | (simp at c48 ⊢; omega)
                    (first | rw [c48b0] | (simp only [i64_w, i32_w]; rw [c48b0]) | skip)
                    have H' := Aside0.mk H
                    clear H
                    obtain ⟨Ao59, co59, eo59⟩ := Kd.R_slice HO405.out
                    subst eo59
                    go_wp2
                    repeat (go_quiet (fail); try go_wp2)
                    go_meet
                    case rel => exact ⟨_, (true), (by first | rfl | (simp; done) | (simp [*]; done)), H', ⟨by have := HJ2.out; have := HJ9.out; first | omega | exact Nat.le_refl _⟩, ⟨by (with_reducible repeat (first | apply Kd.R_alloc | apply Kd.R_drewN | apply Kd.R_drew)); exact HO405.out⟩, ⟨by repeat (first | (with_reducible first | exact HB.out | apply below_alloc | apply pw_below_drewN | apply below_drew1) | exact HB.out)⟩⟩
                case rest =>
                  clear HC43
                  try clear c1
                  try clear c2
                  try clear p2
                  try clear c3
                  try clear p3
                  try clear q3
                  try clear hx3
                  try clear c4
                  try clear p4
                  try clear q4
                  try clear hx4
                  try clear c5
                  try clear p6
                  try clear c7
                  try clear c13
                  try clear c14
                  try clear c14b0
                  try clear c14b1
                  try clear c16
                  try clear c16b0
                  try clear c16b1
                  try clear c16b2
                  try clear c20
                  try clear c21
                  try clear c21b0
                  try clear c24
                  try clear c24b0
                  try clear c25
                  try clear c25b0
                  try clear c26
                  try clear c26b0
                  try clear c27
                  try clear c27b0
                  try clear c27b1
                  try clear c28
                  try clear c29
                  try clear c29b0
                  try clear c30
                  try clear c30b0
                  try clear c31
                  try clear c31b0
                  try clear c32
                  try clear c32b0
                  try clear c33
                  try clear c33b0
                  try clear c34
                  try clear c34b0
                  try clear c35
                  try clear c35b0
                  try clear c36
                  try clear c36b0
                  try clear p39
                  try clear q39
                  try clear hx39
                  try clear c41
                  try clear c41b0
                  try clear c41b1
                  try clear p41
                  try clear q41
                  try clear hx41
                  try clear c42
                  try clear c42b0
                  try clear c42b1
                  try clear c48
                  try clear c48b0
                  try clear c48b1
                  try clear c48b2
                  try clear c50
                  try clear c50b0
                  try clear c50b1
                  try clear c51
                  try clear c51b0
                  try clear c53
                  try clear c53b0
                  try clear c55
                  try clear c55b0
                  try clear c56
                  try clear c56b0
                  try clear hx390_0
                  try clear hx391_0
                  try clear hx392_0
                  try clear hx393_0
                  try clear hx394_0
                  try clear hx395_0
                  try clear hx396_0
                  try clear hx410_0
                  try clear p2
                  try clear p3
                  try clear p390
                  try clear p391
                  try clear p392
                  try clear p393
                  try clear p394
                  try clear p395
                  try clear p396
                  try clear p410
                  try clear p6
                  try clear q3
                  try clear q390
                  try clear q391
                  try clear q392
                  try clear q393
                  try clear q394
                  try clear q395
                  try clear q396
                  try clear q410
                  obtain ⟨kq, x167_42, rfl, HA, HJ42, HO_14, HB⟩ := hcut
                  cases kq with
                  | zero => exact absurd HA.out (by simp [laws_FnShares.j6])
                  | succ kj42 =>
                    have H := HA.out
                    clear HA
                    simp only [laws_FnShares.j6] at H
                    by_cases c60 : x167_42 = true
                    · subst c60
                      have H1 : (some false) = some r := by rw [if_pos rfl] at H; exact H
                      clear H
                      have H := H1
                      clear H1
                      obtain rfl := Option.some.inj H
                      go_wp2
                      repeat (go_quiet (fail); try go_wp2)
                      go_ret
                      exact ⟨by first | rfl | (simp [errW_none, errW_some] <;> rfl) | (simp [*, errW_none, errW_some] <;> rfl), by repeat (first | (with_reducible first | exact HB.out | apply below_alloc | apply pw_below_drewN | apply below_drew1) | exact HB.out)⟩
                    · as_aux_lemma =>
                      replace c60 := Bool.eq_false_iff.mpr c60
                      subst c60
                      have H1 : (laws_FnShares.l2 kj42 t402 t407 0) = some r := by rw [if_neg (show ¬ (false = true) by decide)] at H; exact H
                      clear H
                      have H := H1
                      clear H1
                      have H' := Aside0.mk H
                      clear H
                      go_wp2
                      repeat (go_quiet (fail); try go_wp2)
                      go_loopg [19] kj42 (fun kq v19 w' => ∃ (x19_4 : Int), v19 = .int .i64 x19_4 ∧ Aside0 (laws_FnShares.l2 kq t402 t407 x19_4 = some r) ∧ Aside0 (kq ≤ kj42) ∧ Aside0 (Kd.R (Kd.int .i64) 2 w' w.heap.size (fun _ => True) v404 t402) ∧ Aside0 (Below w.heap.size w w'))
                      case atStart => exact ⟨(0), (by first | rfl | (simp; done) | (simp [*]; done)), H', ⟨Nat.le_refl _⟩, ⟨by (with_reducible repeat (first | apply Kd.R_alloc | apply Kd.R_drewN | apply Kd.R_drew)); exact HO_14.out⟩, ⟨by repeat (first | (with_reducible first | exact HB.out | apply below_alloc | apply pw_below_drewN | apply below_drew1) | exact HB.out)⟩⟩
                      case round =>
                        clear H'
                        try clear c1
                        try clear c2
                        try clear p2
                        try clear c3
                        try clear p3
                        try clear q3
                        try clear hx3
                        try clear c4
                        try clear p4
                        try clear q4
                        try clear hx4
                        try clear c5
                        try clear c6
                        try clear p6
                        try clear c7
                        try clear c13
                        try clear c14
                        try clear c14b0
                        try clear c14b1
                        try clear c16
                        try clear c16b0
                        try clear c16b1
                        try clear c16b2
                        try clear c20
                        try clear c21
                        try clear c21b0
                        try clear c24
                        try clear c24b0
                        try clear c25
                        try clear c25b0
                        try clear c26
                        try clear c26b0
                        try clear c27
                        try clear c27b0
                        try clear c27b1
                        try clear c28
                        try clear c29
                        try clear c29b0
                        try clear c30
                        try clear c30b0
                        try clear c31
                        try clear c31b0
                        try clear c32
                        try clear c32b0
                        try clear c33
                        try clear c33b0
                        try clear c34
                        try clear c34b0
                        try clear c35
                        try clear c35b0
                        try clear c36
                        try clear c36b0
                        try clear p39
                        try clear q39
                        try clear hx39
                        try clear c41
                        try clear c41b0
                        try clear c41b1
                        try clear p41
                        try clear q41
                        try clear hx41
                        try clear c42
                        try clear c42b0
                        try clear c42b1
                        try clear c48
                        try clear c48b0
                        try clear c48b1
                        try clear c48b2
                        try clear c50
                        try clear c50b0
                        try clear c50b1
                        try clear c51
                        try clear c51b0
                        try clear c53
                        try clear c53b0
                        try clear c55
                        try clear c55b0
                        try clear c56
                        try clear c56b0
                        try clear c60
                        try clear hx390_0
                        try clear hx391_0
                        try clear hx392_0
                        try clear hx393_0
                        try clear hx394_0
                        try clear hx395_0
                        try clear hx396_0
                        try clear hx410_0
                        try clear p2
                        try clear p3
                        try clear p39
                        try clear p390
                        try clear p391
                        try clear p392
                        try clear p393
                        try clear p394
                        try clear p395
                        try clear p396
                        try clear p4
                        try clear p41
                        try clear p410
                        try clear p6
                        try clear q3
                        try clear q39
                        try clear q390
                        try clear q391
                        try clear q392
                        try clear q393
                        try clear q394
                        try clear q395
                        try clear q396
                        try clear q4
                        try clear q41
                        try clear q410
                        obtain ⟨x19_4, rfl, HA, HK4, HO_14, HB⟩ := hrel
                        cases gk with
                        | zero => exact absurd HA.out (by simp [laws_FnShares.l2])
                        | succ k4 =>
                          have H := HA.out
                          clear HA
                          simp only [laws_FnShares.l2] at H
                          by_cases c61 : x19_4 < (t402.length : Int)
                          · as_aux_lemma =>
                            rw [if_pos c61] at H
                            have c61b0 : decide (x19_4 < (t402.length : Int)) = true := decide_eq_true c61
                            clear c61
                            by_cases c62 : 0 ≤ x19_4
                            · as_aux_lemma =>
                              rw [if_pos c62] at H
                              have c62b0 : decide (0 ≤ x19_4) = true := decide_eq_true c62
                              clear c62
                              by_cases c63 : (rd t402 x19_4) > t407
                              · rw [if_pos c63] at H
                                have c63b0 : decide (t407 < (rd t402 x19_4)) = true := decide_eq_true c63
                                clear c63
                                obtain rfl := Option.some.inj H
                                obtain ⟨Ao64, co64, eo64⟩ := Kd.R_slice HO_14.out
                                subst eo64
                                have p411 : 0 ≤ (x19_4 : Int) := of_decide_eq_true (by first | (with_reducible assumption) | assumption)
                                have q411 : x19_4 < (t402.length : Int) := of_decide_eq_true (by first | (with_reducible assumption) | assumption)
                                obtain ⟨ad411, e411, hx411_0⟩ := Kd.at_int (Kd.R_reads' HO_14.out).2.2 x19_4 p411 q411
                                cases e411
                                replace p411 := eq_true p411
                                replace q411 := eq_true q411
                                go_wp2
                                repeat (go_quiet (fail); try go_wp2)
                                go_ret
                                exact ⟨by first | rfl | (simp [errW_none, errW_some] <;> rfl) | (simp [*, errW_none, errW_some] <;> rfl), by repeat (first | (with_reducible first | exact HB.out | apply below_alloc | apply pw_below_drewN | apply below_drew1) | exact HB.out)⟩
                              · rw [if_neg c63] at H
                                have c63b0 : decide (t407 < (rd t402 x19_4)) = false := decide_eq_false c63
                                clear c63
                                by_cases c65 : (rd t402 x19_4) < 0
                                · rw [if_pos c65] at H
                                  have c65b0 : decide ((rd t402 x19_4) < 0) = true := decide_eq_true c65
                                  clear c65
                                  obtain rfl := Option.some.inj H
                                  obtain ⟨Ao66, co66, eo66⟩ := Kd.R_slice HO_14.out
                                  subst eo66
                                  have p411 : 0 ≤ (x19_4 : Int) := of_decide_eq_true (by first | (with_reducible assumption) | assumption)
                                  have q411 : x19_4 < (t402.length : Int) := of_decide_eq_true (by first | (with_reducible assumption) | assumption)
                                  obtain ⟨ad411, e411, hx411_0⟩ := Kd.at_int (Kd.R_reads' HO_14.out).2.2 x19_4 p411 q411
                                  cases e411
                                  replace p411 := eq_true p411
                                  replace q411 := eq_true q411
                                  have p412 : 0 ≤ (x19_4 : Int) := of_decide_eq_true (by first | (with_reducible assumption) | assumption)
                                  have q412 : x19_4 < (t402.length : Int) := of_decide_eq_true (by first | (with_reducible assumption) | assumption)
                                  obtain ⟨ad412, e412, hx412_0⟩ := Kd.at_int (Kd.R_reads' HO_14.out).2.2 x19_4 p412 q412
                                  obtain rfl : ad411 = ad412 := (by injection e412)
                                  replace p412 := eq_true p412
                                  replace q412 := eq_true q412
                                  go_wp2
                                  repeat (go_quiet (fail); try go_wp2)
                                  go_ret
                                  exact ⟨by first | rfl | (simp [errW_none, errW_some] <;> rfl) | (simp [*, errW_none, errW_some] <;> rfl), by repeat (first | (with_reducible first | exact HB.out | apply below_alloc | apply pw_below_drewN | apply below_drew1) | exact HB.out)⟩
                                · rw [if_neg c65] at H
                                  have c65b0 : decide ((rd t402 x19_4) < 0) = false := decide_eq_false c65
                                  clear c65
                                  have H' := Aside0.mk H
                                  clear H
                                  obtain ⟨Ao67, co67, eo67⟩ := Kd.R_slice HO_14.out
                                  subst eo67
                                  have p411 : 0 ≤ (x19_4 : Int) := of_decide_eq_true (by first | (with_reducible assumption) | assumption)
                                  have q411 : x19_4 < (t402.length : Int) := of_decide_eq_true (by first | (with_reducible assumption) | assumption)
                                  obtain ⟨ad411, e411, hx411_0⟩ := Kd.at_int (Kd.R_reads' HO_14.out).2.2 x19_4 p411 q411
                                  cases e411
                                  replace p411 := eq_true p411
                                  replace q411 := eq_true q411
                                  have p412 : 0 ≤ (x19_4 : Int) := of_decide_eq_true (by first | (with_reducible assumption) | assumption)
                                  have q412 : x19_4 < (t402.length : Int) := of_decide_eq_true (by first | (with_reducible assumption) | assumption)
                                  obtain ⟨ad412, e412, hx412_0⟩ := Kd.at_int (Kd.R_reads' HO_14.out).2.2 x19_4 p412 q412
                                  obtain rfl : ad411 = ad412 := (by injection e412)
                                  replace p412 := eq_true p412
                                  replace q412 := eq_true q412
                                  go_wp2
                                  repeat (go_quiet (fail); try go_wp2)
                                  go_roundg k4
                                  case measure => have := HJ2.out; have := HJ9.out; have := HJ42.out; have := HK4.out; omega
                                  case rel => exact ⟨(wrap64 (x19_4 + 1)), (by first | rfl | (simp; done) | (simp [*]; done)), H', ⟨by have := HJ2.out; have := HJ9.out; have := HJ42.out; have := HK4.out; omega⟩, ⟨by (with_reducible repeat (first | apply Kd.R_alloc | apply Kd.R_drewN | apply Kd.R_drew)); exact HO_14.out⟩, ⟨by repeat (first | (with_reducible first | exact HB.out | apply below_alloc | apply pw_below_drewN | apply below_drew1) | exact HB.out)⟩⟩
                            · rw [if_neg c62] at H
                              exact absurd H (by simp)
                          · rw [if_neg c61] at H
                            have c61b0 : decide (x19_4 < (t402.length : Int)) = false := decide_eq_false c61
                            clear c61
                            obtain rfl := Option.some.inj H
                            obtain ⟨Ao68, co68, eo68⟩ := Kd.R_slice HO_14.out
                            subst eo68
                            go_wp2
                            repeat (go_quiet (fail); try go_wp2)
                            go_ret
                            exact ⟨by first | rfl | (simp [errW_none, errW_some] <;> rfl) | (simp [*, errW_none, errW_some] <;> rfl), by repeat (first | (with_reducible first | exact HB.out | apply below_alloc | apply pw_below_drewN | apply below_drew1) | exact HB.out)⟩
              · rw [if_neg c42] at H
                have c42b0 : (t403 == 0) = false := beq_eq_false_iff_ne.mpr c42
                have c42b1 : (t403 != 0) = true := bne_iff_ne.mpr c42
                by_cases c69 : (t402.length : Int) = 0
                · rw [if_pos c69] at H
                  have c69b0 : ((t402.length : Int) == 0) = true := beq_iff_eq.mpr c69
                  have c69b1 : ((t402.length : Int) != 0) = false := bne_eq_false_iff_eq.mpr c69
                  clear c69
                  by_cases c70 : t406 = 0
                  · rw [if_pos c70] at H
                    have c70b0 : (t406 == 0) = true := beq_iff_eq.mpr c70
                    have c70b1 : (t406 != 0) = false := bne_eq_false_iff_eq.mpr c70
                    clear c70
                    obtain rfl := Option.some.inj H
                    go_wp2_with (first | (go_at_call 79; (first | (with_reducible refine (spec_DrawLargestShare.calls kj9 _ _ l1 t397 t398 t399 _ ?side1 ?side2 A38.out).mono ?_) | ((try simp only [Go.IntWalk.i64_left]); (with_reducible refine (spec_DrawLargestShare.calls kj9 _ _ l1 t397 t398 t399 _ ?side1 ?side2 A38.out).mono ?_))); (case side1 => repeat (first | exact (Kd.C_below HR1.out HB.out) | (with_reducible refine Kd.C_alloc ?_ _) | (with_reducible refine Kd.C_drewN ?_ _) | (with_reducible refine Kd.C_drew ?_))); (case side2 => exact HC1.out); rintro e w71 ⟨v400, rfl, ho0, hb⟩; have n0_ := Aside0.mk (Kd.R_lower ho0 (below_size (by repeat (first | (with_reducible first | exact HB.out | apply below_alloc | apply pw_below_drewN | apply below_drew1) | exact HB.out)))); have n1_ := Aside0.mk (below_step (by repeat (first | (with_reducible first | exact HB.out | apply below_alloc | apply pw_below_drewN | apply below_drew1) | exact HB.out)) hb); clear HB; have HO401 := n0_; have HB := n1_; clear n0_ n1_; (try clear hb); (try clear hb2); (try clear hk); (try clear hi); (try clear ho0); obtain ⟨Ao72, co72, eo72⟩ := Kd.R_slice HO401.out; subst eo72) | (go_at_call 80; (first | (with_reducible refine (impl_HeatBill.calls kj9 _ _ t397 t398 t399 t402 t403 _ ?side1 ?side2 A39.out).mono ?_) | ((try simp only [Go.IntWalk.i64_left]); (with_reducible refine (impl_HeatBill.calls kj9 _ _ t397 t398 t399 t402 t403 _ ?side1 ?side2 A39.out).mono ?_))); (case side1 => repeat (first | exact (Kd.R_reads' HO401.out).2.2 | (with_reducible refine Kd.C_alloc ?_ _) | (with_reducible refine Kd.C_drewN ?_ _) | (with_reducible refine Kd.C_drew ?_))); (case side2 => exact (Kd.R_reads' HO401.out).2.1); rintro e w73 ⟨v404, rfl, ho0, hb⟩; have n0_ := Aside0.mk (Kd.R_below (by (with_reducible repeat (first | apply Kd.R_alloc | apply Kd.R_drewN | apply Kd.R_drew)); exact HO401.out) hb); have n1_ := Aside0.mk (Kd.R_lower ho0 (below_size (by repeat (first | (with_reducible first | exact HB.out | apply below_alloc | apply pw_below_drewN | apply below_drew1) | exact HB.out)))); have n2_ := Aside0.mk (below_step (by repeat (first | (with_reducible first | exact HB.out | apply below_alloc | apply pw_below_drewN | apply below_drew1) | exact HB.out)) hb); clear HO401; clear HB; have HO401 := n0_; have HO405 := n1_; have HB := n2_; clear n0_ n1_ n2_; (try clear hb); (try clear hb2); (try clear hk); (try clear hi); (try clear ho0)) | (go_at_call 81; (first | (with_reducible refine (impl_LargestShare.calls kj9 _ _ t397 t398 t399 t406 t407 t408 _ ?side1 ?side2 A40.out).mono ?_) | ((try simp only [Go.IntWalk.i64_left]); (with_reducible refine (impl_LargestShare.calls kj9 _ _ t397 t398 t399 t406 t407 t408 _ ?side1 ?side2 A40.out).mono ?_))); (case side1 => repeat (first | exact (Kd.R_reads' HO401.out).2.2 | (with_reducible refine Kd.C_alloc ?_ _) | (with_reducible refine Kd.C_drewN ?_ _) | (with_reducible refine Kd.C_drew ?_))); (case side2 => exact (Kd.R_reads' HO401.out).2.1); rintro e w74 ⟨rfl, hb⟩; have n0_ := Aside0.mk (Kd.R_below (by (with_reducible repeat (first | apply Kd.R_alloc | apply Kd.R_drewN | apply Kd.R_drew)); exact HO401.out) hb); have n1_ := Aside0.mk (Kd.R_below (by (with_reducible repeat (first | apply Kd.R_alloc | apply Kd.R_drewN | apply Kd.R_drew)); exact HO405.out) hb); have n2_ := Aside0.mk (below_step (by repeat (first | (with_reducible first | exact HB.out | apply below_alloc | apply pw_below_drewN | apply below_drew1) | exact HB.out)) hb); clear HO401; clear HO405; clear HB; have HO401 := n0_; have HO405 := n1_; have HB := n2_; clear n0_ n1_ n2_; (try clear hb); (try clear hb2); (try clear hk); (try clear hi); obtain ⟨Ao75, co75, eo75⟩ := Kd.R_slice HO405.out; subst eo75))
                    repeat (go_quiet (first | (go_at_call 79; (first | (with_reducible refine (spec_DrawLargestShare.calls kj9 _ _ l1 t397 t398 t399 _ ?side1 ?side2 A38.out).mono ?_) | ((try simp only [Go.IntWalk.i64_left]); (with_reducible refine (spec_DrawLargestShare.calls kj9 _ _ l1 t397 t398 t399 _ ?side1 ?side2 A38.out).mono ?_))); (case side1 => repeat (first | exact (Kd.C_below HR1.out HB.out) | (with_reducible refine Kd.C_alloc ?_ _) | (with_reducible refine Kd.C_drewN ?_ _) | (with_reducible refine Kd.C_drew ?_))); (case side2 => exact HC1.out); rintro e w71 ⟨v400, rfl, ho0, hb⟩; have n0_ := Aside0.mk (Kd.R_lower ho0 (below_size (by repeat (first | (with_reducible first | exact HB.out | apply below_alloc | apply pw_below_drewN | apply below_drew1) | exact HB.out)))); have n1_ := Aside0.mk (below_step (by repeat (first | (with_reducible first | exact HB.out | apply below_alloc | apply pw_below_drewN | apply below_drew1) | exact HB.out)) hb); clear HB; have HO401 := n0_; have HB := n1_; clear n0_ n1_; (try clear hb); (try clear hb2); (try clear hk); (try clear hi); (try clear ho0); obtain ⟨Ao72, co72, eo72⟩ := Kd.R_slice HO401.out; subst eo72) | (go_at_call 80; (first | (with_reducible refine (impl_HeatBill.calls kj9 _ _ t397 t398 t399 t402 t403 _ ?side1 ?side2 A39.out).mono ?_) | ((try simp only [Go.IntWalk.i64_left]); (with_reducible refine (impl_HeatBill.calls kj9 _ _ t397 t398 t399 t402 t403 _ ?side1 ?side2 A39.out).mono ?_))); (case side1 => repeat (first | exact (Kd.R_reads' HO401.out).2.2 | (with_reducible refine Kd.C_alloc ?_ _) | (with_reducible refine Kd.C_drewN ?_ _) | (with_reducible refine Kd.C_drew ?_))); (case side2 => exact (Kd.R_reads' HO401.out).2.1); rintro e w73 ⟨v404, rfl, ho0, hb⟩; have n0_ := Aside0.mk (Kd.R_below (by (with_reducible repeat (first | apply Kd.R_alloc | apply Kd.R_drewN | apply Kd.R_drew)); exact HO401.out) hb); have n1_ := Aside0.mk (Kd.R_lower ho0 (below_size (by repeat (first | (with_reducible first | exact HB.out | apply below_alloc | apply pw_below_drewN | apply below_drew1) | exact HB.out)))); have n2_ := Aside0.mk (below_step (by repeat (first | (with_reducible first | exact HB.out | apply below_alloc | apply pw_below_drewN | apply below_drew1) | exact HB.out)) hb); clear HO401; clear HB; have HO401 := n0_; have HO405 := n1_; have HB := n2_; clear n0_ n1_ n2_; (try clear hb); (try clear hb2); (try clear hk); (try clear hi); (try clear ho0)) | (go_at_call 81; (first | (with_reducible refine (impl_LargestShare.calls kj9 _ _ t397 t398 t399 t406 t407 t408 _ ?side1 ?side2 A40.out).mono ?_) | ((try simp only [Go.IntWalk.i64_left]); (with_reducible refine (impl_LargestShare.calls kj9 _ _ t397 t398 t399 t406 t407 t408 _ ?side1 ?side2 A40.out).mono ?_))); (case side1 => repeat (first | exact (Kd.R_reads' HO401.out).2.2 | (with_reducible refine Kd.C_alloc ?_ _) | (with_reducible refine Kd.C_drewN ?_ _) | (with_reducible refine Kd.C_drew ?_))); (case side2 => exact (Kd.R_reads' HO401.out).2.1); rintro e w74 ⟨rfl, hb⟩; have n0_ := Aside0.mk (Kd.R_below (by (with_reducible repeat (first | apply Kd.R_alloc | apply Kd.R_drewN | apply Kd.R_drew)); exact HO401.out) hb); have n1_ := Aside0.mk (Kd.R_below (by (with_reducible repeat (first | apply Kd.R_alloc | apply Kd.R_drewN | apply Kd.R_drew)); exact HO405.out) hb); have n2_ := Aside0.mk (below_step (by repeat (first | (with_reducible first | exact HB.out | apply below_alloc | apply pw_below_drewN | apply below_drew1) | exact HB.out)) hb); clear HO401; clear HO405; clear HB; have HO401 := n0_; have HO405 := n1_; have HB := n2_; clear n0_ n1_ n2_; (try clear hb); (try clear hb2); (try clear hk); (try clear hi); obtain ⟨Ao75, co75, eo75⟩ := Kd.R_slice HO405.out; subst eo75)); try go_wp2_with (first | (go_at_call 79; (first | (with_reducible refine (spec_DrawLargestShare.calls kj9 _ _ l1 t397 t398 t399 _ ?side1 ?side2 A38.out).mono ?_) | ((try simp only [Go.IntWalk.i64_left]); (with_reducible refine (spec_DrawLargestShare.calls kj9 _ _ l1 t397 t398 t399 _ ?side1 ?side2 A38.out).mono ?_))); (case side1 => repeat (first | exact (Kd.C_below HR1.out HB.out) | (with_reducible refine Kd.C_alloc ?_ _) | (with_reducible refine Kd.C_drewN ?_ _) | (with_reducible refine Kd.C_drew ?_))); (case side2 => exact HC1.out); rintro e w71 ⟨v400, rfl, ho0, hb⟩; have n0_ := Aside0.mk (Kd.R_lower ho0 (below_size (by repeat (first | (with_reducible first | exact HB.out | apply below_alloc | apply pw_below_drewN | apply below_drew1) | exact HB.out)))); have n1_ := Aside0.mk (below_step (by repeat (first | (with_reducible first | exact HB.out | apply below_alloc | apply pw_below_drewN | apply below_drew1) | exact HB.out)) hb); clear HB; have HO401 := n0_; have HB := n1_; clear n0_ n1_; (try clear hb); (try clear hb2); (try clear hk); (try clear hi); (try clear ho0); obtain ⟨Ao72, co72, eo72⟩ := Kd.R_slice HO401.out; subst eo72) | (go_at_call 80; (first | (with_reducible refine (impl_HeatBill.calls kj9 _ _ t397 t398 t399 t402 t403 _ ?side1 ?side2 A39.out).mono ?_) | ((try simp only [Go.IntWalk.i64_left]); (with_reducible refine (impl_HeatBill.calls kj9 _ _ t397 t398 t399 t402 t403 _ ?side1 ?side2 A39.out).mono ?_))); (case side1 => repeat (first | exact (Kd.R_reads' HO401.out).2.2 | (with_reducible refine Kd.C_alloc ?_ _) | (with_reducible refine Kd.C_drewN ?_ _) | (with_reducible refine Kd.C_drew ?_))); (case side2 => exact (Kd.R_reads' HO401.out).2.1); rintro e w73 ⟨v404, rfl, ho0, hb⟩; have n0_ := Aside0.mk (Kd.R_below (by (with_reducible repeat (first | apply Kd.R_alloc | apply Kd.R_drewN | apply Kd.R_drew)); exact HO401.out) hb); have n1_ := Aside0.mk (Kd.R_lower ho0 (below_size (by repeat (first | (with_reducible first | exact HB.out | apply below_alloc | apply pw_below_drewN | apply below_drew1) | exact HB.out)))); have n2_ := Aside0.mk (below_step (by repeat (first | (with_reducible first | exact HB.out | apply below_alloc | apply pw_below_drewN | apply below_drew1) | exact HB.out)) hb); clear HO401; clear HB; have HO401 := n0_; have HO405 := n1_; have HB := n2_; clear n0_ n1_ n2_; (try clear hb); (try clear hb2); (try clear hk); (try clear hi); (try clear ho0)) | (go_at_call 81; (first | (with_reducible refine (impl_LargestShare.calls kj9 _ _ t397 t398 t399 t406 t407 t408 _ ?side1 ?side2 A40.out).mono ?_) | ((try simp only [Go.IntWalk.i64_left]); (with_reducible refine (impl_LargestShare.calls kj9 _ _ t397 t398 t399 t406 t407 t408 _ ?side1 ?side2 A40.out).mono ?_))); (case side1 => repeat (first | exact (Kd.R_reads' HO401.out).2.2 | (with_reducible refine Kd.C_alloc ?_ _) | (with_reducible refine Kd.C_drewN ?_ _) | (with_reducible refine Kd.C_drew ?_))); (case side2 => exact (Kd.R_reads' HO401.out).2.1); rintro e w74 ⟨rfl, hb⟩; have n0_ := Aside0.mk (Kd.R_below (by (with_reducible repeat (first | apply Kd.R_alloc | apply Kd.R_drewN | apply Kd.R_drew)); exact HO401.out) hb); have n1_ := Aside0.mk (Kd.R_below (by (with_reducible repeat (first | apply Kd.R_alloc | apply Kd.R_drewN | apply Kd.R_drew)); exact HO405.out) hb); have n2_ := Aside0.mk (below_step (by repeat (first | (with_reducible first | exact HB.out | apply below_alloc | apply pw_below_drewN | apply below_drew1) | exact HB.out)) hb); clear HO401; clear HO405; clear HB; have HO401 := n0_; have HO405 := n1_; have HB := n2_; clear n0_ n1_ n2_; (try clear hb); (try clear hb2); (try clear hk); (try clear hi); obtain ⟨Ao75, co75, eo75⟩ := Kd.R_slice HO405.out; subst eo75)))
                    go_ret
                    exact ⟨by first | rfl | (simp [errW_none, errW_some] <;> rfl) | (simp [*, errW_none, errW_some] <;> rfl), by repeat (first | (with_reducible first | exact HB.out | apply below_alloc | apply pw_below_drewN | apply below_drew1) | exact HB.out)⟩
                  · rw [if_neg c70] at H
                    have c70b0 : (t406 == 0) = false := beq_eq_false_iff_ne.mpr c70
                    have c70b1 : (t406 != 0) = true := bne_iff_ne.mpr c70
                    obtain rfl := Option.some.inj H
                    go_wp2_with (first | (go_at_call 79; (first | (with_reducible refine (spec_DrawLargestShare.calls kj9 _ _ l1 t397 t398 t399 _ ?side1 ?side2 A38.out).mono ?_) | ((try simp only [Go.IntWalk.i64_left]); (with_reducible refine (spec_DrawLargestShare.calls kj9 _ _ l1 t397 t398 t399 _ ?side1 ?side2 A38.out).mono ?_))); (case side1 => repeat (first | exact (Kd.C_below HR1.out HB.out) | (with_reducible refine Kd.C_alloc ?_ _) | (with_reducible refine Kd.C_drewN ?_ _) | (with_reducible refine Kd.C_drew ?_))); (case side2 => exact HC1.out); rintro e w76 ⟨v400, rfl, ho0, hb⟩; have n0_ := Aside0.mk (Kd.R_lower ho0 (below_size (by repeat (first | (with_reducible first | exact HB.out | apply below_alloc | apply pw_below_drewN | apply below_drew1) | exact HB.out)))); have n1_ := Aside0.mk (below_step (by repeat (first | (with_reducible first | exact HB.out | apply below_alloc | apply pw_below_drewN | apply below_drew1) | exact HB.out)) hb); clear HB; have HO401 := n0_; have HB := n1_; clear n0_ n1_; (try clear hb); (try clear hb2); (try clear hk); (try clear hi); (try clear ho0); obtain ⟨Ao77, co77, eo77⟩ := Kd.R_slice HO401.out; subst eo77) | (go_at_call 80; (first | (with_reducible refine (impl_HeatBill.calls kj9 _ _ t397 t398 t399 t402 t403 _ ?side1 ?side2 A39.out).mono ?_) | ((try simp only [Go.IntWalk.i64_left]); (with_reducible refine (impl_HeatBill.calls kj9 _ _ t397 t398 t399 t402 t403 _ ?side1 ?side2 A39.out).mono ?_))); (case side1 => repeat (first | exact (Kd.R_reads' HO401.out).2.2 | (with_reducible refine Kd.C_alloc ?_ _) | (with_reducible refine Kd.C_drewN ?_ _) | (with_reducible refine Kd.C_drew ?_))); (case side2 => exact (Kd.R_reads' HO401.out).2.1); rintro e w78 ⟨v404, rfl, ho0, hb⟩; have n0_ := Aside0.mk (Kd.R_below (by (with_reducible repeat (first | apply Kd.R_alloc | apply Kd.R_drewN | apply Kd.R_drew)); exact HO401.out) hb); have n1_ := Aside0.mk (Kd.R_lower ho0 (below_size (by repeat (first | (with_reducible first | exact HB.out | apply below_alloc | apply pw_below_drewN | apply below_drew1) | exact HB.out)))); have n2_ := Aside0.mk (below_step (by repeat (first | (with_reducible first | exact HB.out | apply below_alloc | apply pw_below_drewN | apply below_drew1) | exact HB.out)) hb); clear HO401; clear HB; have HO401 := n0_; have HO405 := n1_; have HB := n2_; clear n0_ n1_ n2_; (try clear hb); (try clear hb2); (try clear hk); (try clear hi); (try clear ho0)) | (go_at_call 81; (first | (with_reducible refine (impl_LargestShare.calls kj9 _ _ t397 t398 t399 t406 t407 t408 _ ?side1 ?side2 A40.out).mono ?_) | ((try simp only [Go.IntWalk.i64_left]); (with_reducible refine (impl_LargestShare.calls kj9 _ _ t397 t398 t399 t406 t407 t408 _ ?side1 ?side2 A40.out).mono ?_))); (case side1 => repeat (first | exact (Kd.R_reads' HO401.out).2.2 | (with_reducible refine Kd.C_alloc ?_ _) | (with_reducible refine Kd.C_drewN ?_ _) | (with_reducible refine Kd.C_drew ?_))); (case side2 => exact (Kd.R_reads' HO401.out).2.1); rintro e w79 ⟨rfl, hb⟩; have n0_ := Aside0.mk (Kd.R_below (by (with_reducible repeat (first | apply Kd.R_alloc | apply Kd.R_drewN | apply Kd.R_drew)); exact HO401.out) hb); have n1_ := Aside0.mk (Kd.R_below (by (with_reducible repeat (first | apply Kd.R_alloc | apply Kd.R_drewN | apply Kd.R_drew)); exact HO405.out) hb); have n2_ := Aside0.mk (below_step (by repeat (first | (with_reducible first | exact HB.out | apply below_alloc | apply pw_below_drewN | apply below_drew1) | exact HB.out)) hb); clear HO401; clear HO405; clear HB; have HO401 := n0_; have HO405 := n1_; have HB := n2_; clear n0_ n1_ n2_; (try clear hb); (try clear hb2); (try clear hk); (try clear hi); obtain ⟨Ao80, co80, eo80⟩ := Kd.R_slice HO405.out; subst eo80))
                    repeat (go_quiet (first | (go_at_call 79; (first | (with_reducible refine (spec_DrawLargestShare.calls kj9 _ _ l1 t397 t398 t399 _ ?side1 ?side2 A38.out).mono ?_) | ((try simp only [Go.IntWalk.i64_left]); (with_reducible refine (spec_DrawLargestShare.calls kj9 _ _ l1 t397 t398 t399 _ ?side1 ?side2 A38.out).mono ?_))); (case side1 => repeat (first | exact (Kd.C_below HR1.out HB.out) | (with_reducible refine Kd.C_alloc ?_ _) | (with_reducible refine Kd.C_drewN ?_ _) | (with_reducible refine Kd.C_drew ?_))); (case side2 => exact HC1.out); rintro e w76 ⟨v400, rfl, ho0, hb⟩; have n0_ := Aside0.mk (Kd.R_lower ho0 (below_size (by repeat (first | (with_reducible first | exact HB.out | apply below_alloc | apply pw_below_drewN | apply below_drew1) | exact HB.out)))); have n1_ := Aside0.mk (below_step (by repeat (first | (with_reducible first | exact HB.out | apply below_alloc | apply pw_below_drewN | apply below_drew1) | exact HB.out)) hb); clear HB; have HO401 := n0_; have HB := n1_; clear n0_ n1_; (try clear hb); (try clear hb2); (try clear hk); (try clear hi); (try clear ho0); obtain ⟨Ao77, co77, eo77⟩ := Kd.R_slice HO401.out; subst eo77) | (go_at_call 80; (first | (with_reducible refine (impl_HeatBill.calls kj9 _ _ t397 t398 t399 t402 t403 _ ?side1 ?side2 A39.out).mono ?_) | ((try simp only [Go.IntWalk.i64_left]); (with_reducible refine (impl_HeatBill.calls kj9 _ _ t397 t398 t399 t402 t403 _ ?side1 ?side2 A39.out).mono ?_))); (case side1 => repeat (first | exact (Kd.R_reads' HO401.out).2.2 | (with_reducible refine Kd.C_alloc ?_ _) | (with_reducible refine Kd.C_drewN ?_ _) | (with_reducible refine Kd.C_drew ?_))); (case side2 => exact (Kd.R_reads' HO401.out).2.1); rintro e w78 ⟨v404, rfl, ho0, hb⟩; have n0_ := Aside0.mk (Kd.R_below (by (with_reducible repeat (first | apply Kd.R_alloc | apply Kd.R_drewN | apply Kd.R_drew)); exact HO401.out) hb); have n1_ := Aside0.mk (Kd.R_lower ho0 (below_size (by repeat (first | (with_reducible first | exact HB.out | apply below_alloc | apply pw_below_drewN | apply below_drew1) | exact HB.out)))); have n2_ := Aside0.mk (below_step (by repeat (first | (with_reducible first | exact HB.out | apply below_alloc | apply pw_below_drewN | apply below_drew1) | exact HB.out)) hb); clear HO401; clear HB; have HO401 := n0_; have HO405 := n1_; have HB := n2_; clear n0_ n1_ n2_; (try clear hb); (try clear hb2); (try clear hk); (try clear hi); (try clear ho0)) | (go_at_call 81; (first | (with_reducible refine (impl_LargestShare.calls kj9 _ _ t397 t398 t399 t406 t407 t408 _ ?side1 ?side2 A40.out).mono ?_) | ((try simp only [Go.IntWalk.i64_left]); (with_reducible refine (impl_LargestShare.calls kj9 _ _ t397 t398 t399 t406 t407 t408 _ ?side1 ?side2 A40.out).mono ?_))); (case side1 => repeat (first | exact (Kd.R_reads' HO401.out).2.2 | (with_reducible refine Kd.C_alloc ?_ _) | (with_reducible refine Kd.C_drewN ?_ _) | (with_reducible refine Kd.C_drew ?_))); (case side2 => exact (Kd.R_reads' HO401.out).2.1); rintro e w79 ⟨rfl, hb⟩; have n0_ := Aside0.mk (Kd.R_below (by (with_reducible repeat (first | apply Kd.R_alloc | apply Kd.R_drewN | apply Kd.R_drew)); exact HO401.out) hb); have n1_ := Aside0.mk (Kd.R_below (by (with_reducible repeat (first | apply Kd.R_alloc | apply Kd.R_drewN | apply Kd.R_drew)); exact HO405.out) hb); have n2_ := Aside0.mk (below_step (by repeat (first | (with_reducible first | exact HB.out | apply below_alloc | apply pw_below_drewN | apply below_drew1) | exact HB.out)) hb); clear HO401; clear HO405; clear HB; have HO401 := n0_; have HO405 := n1_; have HB := n2_; clear n0_ n1_ n2_; (try clear hb); (try clear hb2); (try clear hk); (try clear hi); obtain ⟨Ao80, co80, eo80⟩ := Kd.R_slice HO405.out; subst eo80)); try go_wp2_with (first | (go_at_call 79; (first | (with_reducible refine (spec_DrawLargestShare.calls kj9 _ _ l1 t397 t398 t399 _ ?side1 ?side2 A38.out).mono ?_) | ((try simp only [Go.IntWalk.i64_left]); (with_reducible refine (spec_DrawLargestShare.calls kj9 _ _ l1 t397 t398 t399 _ ?side1 ?side2 A38.out).mono ?_))); (case side1 => repeat (first | exact (Kd.C_below HR1.out HB.out) | (with_reducible refine Kd.C_alloc ?_ _) | (with_reducible refine Kd.C_drewN ?_ _) | (with_reducible refine Kd.C_drew ?_))); (case side2 => exact HC1.out); rintro e w76 ⟨v400, rfl, ho0, hb⟩; have n0_ := Aside0.mk (Kd.R_lower ho0 (below_size (by repeat (first | (with_reducible first | exact HB.out | apply below_alloc | apply pw_below_drewN | apply below_drew1) | exact HB.out)))); have n1_ := Aside0.mk (below_step (by repeat (first | (with_reducible first | exact HB.out | apply below_alloc | apply pw_below_drewN | apply below_drew1) | exact HB.out)) hb); clear HB; have HO401 := n0_; have HB := n1_; clear n0_ n1_; (try clear hb); (try clear hb2); (try clear hk); (try clear hi); (try clear ho0); obtain ⟨Ao77, co77, eo77⟩ := Kd.R_slice HO401.out; subst eo77) | (go_at_call 80; (first | (with_reducible refine (impl_HeatBill.calls kj9 _ _ t397 t398 t399 t402 t403 _ ?side1 ?side2 A39.out).mono ?_) | ((try simp only [Go.IntWalk.i64_left]); (with_reducible refine (impl_HeatBill.calls kj9 _ _ t397 t398 t399 t402 t403 _ ?side1 ?side2 A39.out).mono ?_))); (case side1 => repeat (first | exact (Kd.R_reads' HO401.out).2.2 | (with_reducible refine Kd.C_alloc ?_ _) | (with_reducible refine Kd.C_drewN ?_ _) | (with_reducible refine Kd.C_drew ?_))); (case side2 => exact (Kd.R_reads' HO401.out).2.1); rintro e w78 ⟨v404, rfl, ho0, hb⟩; have n0_ := Aside0.mk (Kd.R_below (by (with_reducible repeat (first | apply Kd.R_alloc | apply Kd.R_drewN | apply Kd.R_drew)); exact HO401.out) hb); have n1_ := Aside0.mk (Kd.R_lower ho0 (below_size (by repeat (first | (with_reducible first | exact HB.out | apply below_alloc | apply pw_below_drewN | apply below_drew1) | exact HB.out)))); have n2_ := Aside0.mk (below_step (by repeat (first | (with_reducible first | exact HB.out | apply below_alloc | apply pw_below_drewN | apply below_drew1) | exact HB.out)) hb); clear HO401; clear HB; have HO401 := n0_; have HO405 := n1_; have HB := n2_; clear n0_ n1_ n2_; (try clear hb); (try clear hb2); (try clear hk); (try clear hi); (try clear ho0)) | (go_at_call 81; (first | (with_reducible refine (impl_LargestShare.calls kj9 _ _ t397 t398 t399 t406 t407 t408 _ ?side1 ?side2 A40.out).mono ?_) | ((try simp only [Go.IntWalk.i64_left]); (with_reducible refine (impl_LargestShare.calls kj9 _ _ t397 t398 t399 t406 t407 t408 _ ?side1 ?side2 A40.out).mono ?_))); (case side1 => repeat (first | exact (Kd.R_reads' HO401.out).2.2 | (with_reducible refine Kd.C_alloc ?_ _) | (with_reducible refine Kd.C_drewN ?_ _) | (with_reducible refine Kd.C_drew ?_))); (case side2 => exact (Kd.R_reads' HO401.out).2.1); rintro e w79 ⟨rfl, hb⟩; have n0_ := Aside0.mk (Kd.R_below (by (with_reducible repeat (first | apply Kd.R_alloc | apply Kd.R_drewN | apply Kd.R_drew)); exact HO401.out) hb); have n1_ := Aside0.mk (Kd.R_below (by (with_reducible repeat (first | apply Kd.R_alloc | apply Kd.R_drewN | apply Kd.R_drew)); exact HO405.out) hb); have n2_ := Aside0.mk (below_step (by repeat (first | (with_reducible first | exact HB.out | apply below_alloc | apply pw_below_drewN | apply below_drew1) | exact HB.out)) hb); clear HO401; clear HO405; clear HB; have HO401 := n0_; have HO405 := n1_; have HB := n2_; clear n0_ n1_ n2_; (try clear hb); (try clear hb2); (try clear hk); (try clear hi); obtain ⟨Ao80, co80, eo80⟩ := Kd.R_slice HO405.out; subst eo80)))
                    go_ret
                    exact ⟨by first | rfl | (simp [errW_none, errW_some] <;> rfl) | (simp [*, errW_none, errW_some] <;> rfl), by repeat (first | (with_reducible first | exact HB.out | apply below_alloc | apply pw_below_drewN | apply below_drew1) | exact HB.out)⟩
                · rw [if_neg c69] at H
                  have c69b0 : ((t402.length : Int) == 0) = false := beq_eq_false_iff_ne.mpr c69
                  have c69b1 : ((t402.length : Int) != 0) = true := bne_iff_ne.mpr c69
                  have c69b2 : ¬ (t402 = []) := fun h_ => c69 (by rw [h_]; rfl)
                  obtain rfl := Option.some.inj H
                  go_wp2_with (first | (go_at_call 79; (first | (with_reducible refine (spec_DrawLargestShare.calls kj9 _ _ l1 t397 t398 t399 _ ?side1 ?side2 A38.out).mono ?_) | ((try simp only [Go.IntWalk.i64_left]); (with_reducible refine (spec_DrawLargestShare.calls kj9 _ _ l1 t397 t398 t399 _ ?side1 ?side2 A38.out).mono ?_))); (case side1 => repeat (first | exact (Kd.C_below HR1.out HB.out) | (with_reducible refine Kd.C_alloc ?_ _) | (with_reducible refine Kd.C_drewN ?_ _) | (with_reducible refine Kd.C_drew ?_))); (case side2 => exact HC1.out); rintro e w81 ⟨v400, rfl, ho0, hb⟩; have n0_ := Aside0.mk (Kd.R_lower ho0 (below_size (by repeat (first | (with_reducible first | exact HB.out | apply below_alloc | apply pw_below_drewN | apply below_drew1) | exact HB.out)))); have n1_ := Aside0.mk (below_step (by repeat (first | (with_reducible first | exact HB.out | apply below_alloc | apply pw_below_drewN | apply below_drew1) | exact HB.out)) hb); clear HB; have HO401 := n0_; have HB := n1_; clear n0_ n1_; (try clear hb); (try clear hb2); (try clear hk); (try clear hi); (try clear ho0); obtain ⟨Ao82, co82, eo82⟩ := Kd.R_slice HO401.out; subst eo82) | (go_at_call 80; (first | (with_reducible refine (impl_HeatBill.calls kj9 _ _ t397 t398 t399 t402 t403 _ ?side1 ?side2 A39.out).mono ?_) | ((try simp only [Go.IntWalk.i64_left]); (with_reducible refine (impl_HeatBill.calls kj9 _ _ t397 t398 t399 t402 t403 _ ?side1 ?side2 A39.out).mono ?_))); (case side1 => repeat (first | exact (Kd.R_reads' HO401.out).2.2 | (with_reducible refine Kd.C_alloc ?_ _) | (with_reducible refine Kd.C_drewN ?_ _) | (with_reducible refine Kd.C_drew ?_))); (case side2 => exact (Kd.R_reads' HO401.out).2.1); rintro e w83 ⟨v404, rfl, ho0, hb⟩; have n0_ := Aside0.mk (Kd.R_below (by (with_reducible repeat (first | apply Kd.R_alloc | apply Kd.R_drewN | apply Kd.R_drew)); exact HO401.out) hb); have n1_ := Aside0.mk (Kd.R_lower ho0 (below_size (by repeat (first | (with_reducible first | exact HB.out | apply below_alloc | apply pw_below_drewN | apply below_drew1) | exact HB.out)))); have n2_ := Aside0.mk (below_step (by repeat (first | (with_reducible first | exact HB.out | apply below_alloc | apply pw_below_drewN | apply below_drew1) | exact HB.out)) hb); clear HO401; clear HB; have HO401 := n0_; have HO405 := n1_; have HB := n2_; clear n0_ n1_ n2_; (try clear hb); (try clear hb2); (try clear hk); (try clear hi); (try clear ho0)) | (go_at_call 81; (first | (with_reducible refine (impl_LargestShare.calls kj9 _ _ t397 t398 t399 t406 t407 t408 _ ?side1 ?side2 A40.out).mono ?_) | ((try simp only [Go.IntWalk.i64_left]); (with_reducible refine (impl_LargestShare.calls kj9 _ _ t397 t398 t399 t406 t407 t408 _ ?side1 ?side2 A40.out).mono ?_))); (case side1 => repeat (first | exact (Kd.R_reads' HO401.out).2.2 | (with_reducible refine Kd.C_alloc ?_ _) | (with_reducible refine Kd.C_drewN ?_ _) | (with_reducible refine Kd.C_drew ?_))); (case side2 => exact (Kd.R_reads' HO401.out).2.1); rintro e w84 ⟨rfl, hb⟩; have n0_ := Aside0.mk (Kd.R_below (by (with_reducible repeat (first | apply Kd.R_alloc | apply Kd.R_drewN | apply Kd.R_drew)); exact HO401.out) hb); have n1_ := Aside0.mk (Kd.R_below (by (with_reducible repeat (first | apply Kd.R_alloc | apply Kd.R_drewN | apply Kd.R_drew)); exact HO405.out) hb); have n2_ := Aside0.mk (below_step (by repeat (first | (with_reducible first | exact HB.out | apply below_alloc | apply pw_below_drewN | apply below_drew1) | exact HB.out)) hb); clear HO401; clear HO405; clear HB; have HO401 := n0_; have HO405 := n1_; have HB := n2_; clear n0_ n1_ n2_; (try clear hb); (try clear hb2); (try clear hk); (try clear hi); obtain ⟨Ao85, co85, eo85⟩ := Kd.R_slice HO405.out; subst eo85))
                  repeat (go_quiet (first | (go_at_call 79; (first | (with_reducible refine (spec_DrawLargestShare.calls kj9 _ _ l1 t397 t398 t399 _ ?side1 ?side2 A38.out).mono ?_) | ((try simp only [Go.IntWalk.i64_left]); (with_reducible refine (spec_DrawLargestShare.calls kj9 _ _ l1 t397 t398 t399 _ ?side1 ?side2 A38.out).mono ?_))); (case side1 => repeat (first | exact (Kd.C_below HR1.out HB.out) | (with_reducible refine Kd.C_alloc ?_ _) | (with_reducible refine Kd.C_drewN ?_ _) | (with_reducible refine Kd.C_drew ?_))); (case side2 => exact HC1.out); rintro e w81 ⟨v400, rfl, ho0, hb⟩; have n0_ := Aside0.mk (Kd.R_lower ho0 (below_size (by repeat (first | (with_reducible first | exact HB.out | apply below_alloc | apply pw_below_drewN | apply below_drew1) | exact HB.out)))); have n1_ := Aside0.mk (below_step (by repeat (first | (with_reducible first | exact HB.out | apply below_alloc | apply pw_below_drewN | apply below_drew1) | exact HB.out)) hb); clear HB; have HO401 := n0_; have HB := n1_; clear n0_ n1_; (try clear hb); (try clear hb2); (try clear hk); (try clear hi); (try clear ho0); obtain ⟨Ao82, co82, eo82⟩ := Kd.R_slice HO401.out; subst eo82) | (go_at_call 80; (first | (with_reducible refine (impl_HeatBill.calls kj9 _ _ t397 t398 t399 t402 t403 _ ?side1 ?side2 A39.out).mono ?_) | ((try simp only [Go.IntWalk.i64_left]); (with_reducible refine (impl_HeatBill.calls kj9 _ _ t397 t398 t399 t402 t403 _ ?side1 ?side2 A39.out).mono ?_))); (case side1 => repeat (first | exact (Kd.R_reads' HO401.out).2.2 | (with_reducible refine Kd.C_alloc ?_ _) | (with_reducible refine Kd.C_drewN ?_ _) | (with_reducible refine Kd.C_drew ?_))); (case side2 => exact (Kd.R_reads' HO401.out).2.1); rintro e w83 ⟨v404, rfl, ho0, hb⟩; have n0_ := Aside0.mk (Kd.R_below (by (with_reducible repeat (first | apply Kd.R_alloc | apply Kd.R_drewN | apply Kd.R_drew)); exact HO401.out) hb); have n1_ := Aside0.mk (Kd.R_lower ho0 (below_size (by repeat (first | (with_reducible first | exact HB.out | apply below_alloc | apply pw_below_drewN | apply below_drew1) | exact HB.out)))); have n2_ := Aside0.mk (below_step (by repeat (first | (with_reducible first | exact HB.out | apply below_alloc | apply pw_below_drewN | apply below_drew1) | exact HB.out)) hb); clear HO401; clear HB; have HO401 := n0_; have HO405 := n1_; have HB := n2_; clear n0_ n1_ n2_; (try clear hb); (try clear hb2); (try clear hk); (try clear hi); (try clear ho0)) | (go_at_call 81; (first | (with_reducible refine (impl_LargestShare.calls kj9 _ _ t397 t398 t399 t406 t407 t408 _ ?side1 ?side2 A40.out).mono ?_) | ((try simp only [Go.IntWalk.i64_left]); (with_reducible refine (impl_LargestShare.calls kj9 _ _ t397 t398 t399 t406 t407 t408 _ ?side1 ?side2 A40.out).mono ?_))); (case side1 => repeat (first | exact (Kd.R_reads' HO401.out).2.2 | (with_reducible refine Kd.C_alloc ?_ _) | (with_reducible refine Kd.C_drewN ?_ _) | (with_reducible refine Kd.C_drew ?_))); (case side2 => exact (Kd.R_reads' HO401.out).2.1); rintro e w84 ⟨rfl, hb⟩; have n0_ := Aside0.mk (Kd.R_below (by (with_reducible repeat (first | apply Kd.R_alloc | apply Kd.R_drewN | apply Kd.R_drew)); exact HO401.out) hb); have n1_ := Aside0.mk (Kd.R_below (by (with_reducible repeat (first | apply Kd.R_alloc | apply Kd.R_drewN | apply Kd.R_drew)); exact HO405.out) hb); have n2_ := Aside0.mk (below_step (by repeat (first | (with_reducible first | exact HB.out | apply below_alloc | apply pw_below_drewN | apply below_drew1) | exact HB.out)) hb); clear HO401; clear HO405; clear HB; have HO401 := n0_; have HO405 := n1_; have HB := n2_; clear n0_ n1_ n2_; (try clear hb); (try clear hb2); (try clear hk); (try clear hi); obtain ⟨Ao85, co85, eo85⟩ := Kd.R_slice HO405.out; subst eo85)); try go_wp2_with (first | (go_at_call 79; (first | (with_reducible refine (spec_DrawLargestShare.calls kj9 _ _ l1 t397 t398 t399 _ ?side1 ?side2 A38.out).mono ?_) | ((try simp only [Go.IntWalk.i64_left]); (with_reducible refine (spec_DrawLargestShare.calls kj9 _ _ l1 t397 t398 t399 _ ?side1 ?side2 A38.out).mono ?_))); (case side1 => repeat (first | exact (Kd.C_below HR1.out HB.out) | (with_reducible refine Kd.C_alloc ?_ _) | (with_reducible refine Kd.C_drewN ?_ _) | (with_reducible refine Kd.C_drew ?_))); (case side2 => exact HC1.out); rintro e w81 ⟨v400, rfl, ho0, hb⟩; have n0_ := Aside0.mk (Kd.R_lower ho0 (below_size (by repeat (first | (with_reducible first | exact HB.out | apply below_alloc | apply pw_below_drewN | apply below_drew1) | exact HB.out)))); have n1_ := Aside0.mk (below_step (by repeat (first | (with_reducible first | exact HB.out | apply below_alloc | apply pw_below_drewN | apply below_drew1) | exact HB.out)) hb); clear HB; have HO401 := n0_; have HB := n1_; clear n0_ n1_; (try clear hb); (try clear hb2); (try clear hk); (try clear hi); (try clear ho0); obtain ⟨Ao82, co82, eo82⟩ := Kd.R_slice HO401.out; subst eo82) | (go_at_call 80; (first | (with_reducible refine (impl_HeatBill.calls kj9 _ _ t397 t398 t399 t402 t403 _ ?side1 ?side2 A39.out).mono ?_) | ((try simp only [Go.IntWalk.i64_left]); (with_reducible refine (impl_HeatBill.calls kj9 _ _ t397 t398 t399 t402 t403 _ ?side1 ?side2 A39.out).mono ?_))); (case side1 => repeat (first | exact (Kd.R_reads' HO401.out).2.2 | (with_reducible refine Kd.C_alloc ?_ _) | (with_reducible refine Kd.C_drewN ?_ _) | (with_reducible refine Kd.C_drew ?_))); (case side2 => exact (Kd.R_reads' HO401.out).2.1); rintro e w83 ⟨v404, rfl, ho0, hb⟩; have n0_ := Aside0.mk (Kd.R_below (by (with_reducible repeat (first | apply Kd.R_alloc | apply Kd.R_drewN | apply Kd.R_drew)); exact HO401.out) hb); have n1_ := Aside0.mk (Kd.R_lower ho0 (below_size (by repeat (first | (with_reducible first | exact HB.out | apply below_alloc | apply pw_below_drewN | apply below_drew1) | exact HB.out)))); have n2_ := Aside0.mk (below_step (by repeat (first | (with_reducible first | exact HB.out | apply below_alloc | apply pw_below_drewN | apply below_drew1) | exact HB.out)) hb); clear HO401; clear HB; have HO401 := n0_; have HO405 := n1_; have HB := n2_; clear n0_ n1_ n2_; (try clear hb); (try clear hb2); (try clear hk); (try clear hi); (try clear ho0)) | (go_at_call 81; (first | (with_reducible refine (impl_LargestShare.calls kj9 _ _ t397 t398 t399 t406 t407 t408 _ ?side1 ?side2 A40.out).mono ?_) | ((try simp only [Go.IntWalk.i64_left]); (with_reducible refine (impl_LargestShare.calls kj9 _ _ t397 t398 t399 t406 t407 t408 _ ?side1 ?side2 A40.out).mono ?_))); (case side1 => repeat (first | exact (Kd.R_reads' HO401.out).2.2 | (with_reducible refine Kd.C_alloc ?_ _) | (with_reducible refine Kd.C_drewN ?_ _) | (with_reducible refine Kd.C_drew ?_))); (case side2 => exact (Kd.R_reads' HO401.out).2.1); rintro e w84 ⟨rfl, hb⟩; have n0_ := Aside0.mk (Kd.R_below (by (with_reducible repeat (first | apply Kd.R_alloc | apply Kd.R_drewN | apply Kd.R_drew)); exact HO401.out) hb); have n1_ := Aside0.mk (Kd.R_below (by (with_reducible repeat (first | apply Kd.R_alloc | apply Kd.R_drewN | apply Kd.R_drew)); exact HO405.out) hb); have n2_ := Aside0.mk (below_step (by repeat (first | (with_reducible first | exact HB.out | apply below_alloc | apply pw_below_drewN | apply below_drew1) | exact HB.out)) hb); clear HO401; clear HO405; clear HB; have HO401 := n0_; have HO405 := n1_; have HB := n2_; clear n0_ n1_ n2_; (try clear hb); (try clear hb2); (try clear hk); (try clear hi); obtain ⟨Ao85, co85, eo85⟩ := Kd.R_slice HO405.out; subst eo85)))
                  go_ret
                  exact ⟨by first | rfl | (simp [errW_none, errW_some] <;> rfl) | (simp [*, errW_none, errW_some] <;> rfl), by repeat (first | (with_reducible first | exact HB.out | apply below_alloc | apply pw_below_drewN | apply below_drew1) | exact HB.out)⟩
            · rw [if_neg c41] at H
              have c41b0 : (t403 == t408) = false := beq_eq_false_iff_ne.mpr c41
              have c41b1 : (t403 != t408) = true := bne_iff_ne.mpr c41
              obtain rfl := Option.some.inj H
              go_wp2_with (first | (go_at_call 79; (first | (with_reducible refine (spec_DrawLargestShare.calls kj9 _ _ l1 t397 t398 t399 _ ?side1 ?side2 A38.out).mono ?_) | ((try simp only [Go.IntWalk.i64_left]); (with_reducible refine (spec_DrawLargestShare.calls kj9 _ _ l1 t397 t398 t399 _ ?side1 ?side2 A38.out).mono ?_))); (case side1 => repeat (first | exact (Kd.C_below HR1.out HB.out) | (with_reducible refine Kd.C_alloc ?_ _) | (with_reducible refine Kd.C_drewN ?_ _) | (with_reducible refine Kd.C_drew ?_))); (case side2 => exact HC1.out); rintro e w86 ⟨v400, rfl, ho0, hb⟩; have n0_ := Aside0.mk (Kd.R_lower ho0 (below_size (by repeat (first | (with_reducible first | exact HB.out | apply below_alloc | apply pw_below_drewN | apply below_drew1) | exact HB.out)))); have n1_ := Aside0.mk (below_step (by repeat (first | (with_reducible first | exact HB.out | apply below_alloc | apply pw_below_drewN | apply below_drew1) | exact HB.out)) hb); clear HB; have HO401 := n0_; have HB := n1_; clear n0_ n1_; (try clear hb); (try clear hb2); (try clear hk); (try clear hi); (try clear ho0); obtain ⟨Ao87, co87, eo87⟩ := Kd.R_slice HO401.out; subst eo87) | (go_at_call 80; (first | (with_reducible refine (impl_HeatBill.calls kj9 _ _ t397 t398 t399 t402 t403 _ ?side1 ?side2 A39.out).mono ?_) | ((try simp only [Go.IntWalk.i64_left]); (with_reducible refine (impl_HeatBill.calls kj9 _ _ t397 t398 t399 t402 t403 _ ?side1 ?side2 A39.out).mono ?_))); (case side1 => repeat (first | exact (Kd.R_reads' HO401.out).2.2 | (with_reducible refine Kd.C_alloc ?_ _) | (with_reducible refine Kd.C_drewN ?_ _) | (with_reducible refine Kd.C_drew ?_))); (case side2 => exact (Kd.R_reads' HO401.out).2.1); rintro e w88 ⟨v404, rfl, ho0, hb⟩; have n0_ := Aside0.mk (Kd.R_below (by (with_reducible repeat (first | apply Kd.R_alloc | apply Kd.R_drewN | apply Kd.R_drew)); exact HO401.out) hb); have n1_ := Aside0.mk (Kd.R_lower ho0 (below_size (by repeat (first | (with_reducible first | exact HB.out | apply below_alloc | apply pw_below_drewN | apply below_drew1) | exact HB.out)))); have n2_ := Aside0.mk (below_step (by repeat (first | (with_reducible first | exact HB.out | apply below_alloc | apply pw_below_drewN | apply below_drew1) | exact HB.out)) hb); clear HO401; clear HB; have HO401 := n0_; have HO405 := n1_; have HB := n2_; clear n0_ n1_ n2_; (try clear hb); (try clear hb2); (try clear hk); (try clear hi); (try clear ho0)) | (go_at_call 81; (first | (with_reducible refine (impl_LargestShare.calls kj9 _ _ t397 t398 t399 t406 t407 t408 _ ?side1 ?side2 A40.out).mono ?_) | ((try simp only [Go.IntWalk.i64_left]); (with_reducible refine (impl_LargestShare.calls kj9 _ _ t397 t398 t399 t406 t407 t408 _ ?side1 ?side2 A40.out).mono ?_))); (case side1 => repeat (first | exact (Kd.R_reads' HO401.out).2.2 | (with_reducible refine Kd.C_alloc ?_ _) | (with_reducible refine Kd.C_drewN ?_ _) | (with_reducible refine Kd.C_drew ?_))); (case side2 => exact (Kd.R_reads' HO401.out).2.1); rintro e w89 ⟨rfl, hb⟩; have n0_ := Aside0.mk (Kd.R_below (by (with_reducible repeat (first | apply Kd.R_alloc | apply Kd.R_drewN | apply Kd.R_drew)); exact HO401.out) hb); have n1_ := Aside0.mk (Kd.R_below (by (with_reducible repeat (first | apply Kd.R_alloc | apply Kd.R_drewN | apply Kd.R_drew)); exact HO405.out) hb); have n2_ := Aside0.mk (below_step (by repeat (first | (with_reducible first | exact HB.out | apply below_alloc | apply pw_below_drewN | apply below_drew1) | exact HB.out)) hb); clear HO401; clear HO405; clear HB; have HO401 := n0_; have HO405 := n1_; have HB := n2_; clear n0_ n1_ n2_; (try clear hb); (try clear hb2); (try clear hk); (try clear hi)))
              repeat (go_quiet (first | (go_at_call 79; (first | (with_reducible refine (spec_DrawLargestShare.calls kj9 _ _ l1 t397 t398 t399 _ ?side1 ?side2 A38.out).mono ?_) | ((try simp only [Go.IntWalk.i64_left]); (with_reducible refine (spec_DrawLargestShare.calls kj9 _ _ l1 t397 t398 t399 _ ?side1 ?side2 A38.out).mono ?_))); (case side1 => repeat (first | exact (Kd.C_below HR1.out HB.out) | (with_reducible refine Kd.C_alloc ?_ _) | (with_reducible refine Kd.C_drewN ?_ _) | (with_reducible refine Kd.C_drew ?_))); (case side2 => exact HC1.out); rintro e w86 ⟨v400, rfl, ho0, hb⟩; have n0_ := Aside0.mk (Kd.R_lower ho0 (below_size (by repeat (first | (with_reducible first | exact HB.out | apply below_alloc | apply pw_below_drewN | apply below_drew1) | exact HB.out)))); have n1_ := Aside0.mk (below_step (by repeat (first | (with_reducible first | exact HB.out | apply below_alloc | apply pw_below_drewN | apply below_drew1) | exact HB.out)) hb); clear HB; have HO401 := n0_; have HB := n1_; clear n0_ n1_; (try clear hb); (try clear hb2); (try clear hk); (try clear hi); (try clear ho0); obtain ⟨Ao87, co87, eo87⟩ := Kd.R_slice HO401.out; subst eo87) | (go_at_call 80; (first | (with_reducible refine (impl_HeatBill.calls kj9 _ _ t397 t398 t399 t402 t403 _ ?side1 ?side2 A39.out).mono ?_) | ((try simp only [Go.IntWalk.i64_left]); (with_reducible refine (impl_HeatBill.calls kj9 _ _ t397 t398 t399 t402 t403 _ ?side1 ?side2 A39.out).mono ?_))); (case side1 => repeat (first | exact (Kd.R_reads' HO401.out).2.2 | (with_reducible refine Kd.C_alloc ?_ _) | (with_reducible refine Kd.C_drewN ?_ _) | (with_reducible refine Kd.C_drew ?_))); (case side2 => exact (Kd.R_reads' HO401.out).2.1); rintro e w88 ⟨v404, rfl, ho0, hb⟩; have n0_ := Aside0.mk (Kd.R_below (by (with_reducible repeat (first | apply Kd.R_alloc | apply Kd.R_drewN | apply Kd.R_drew)); exact HO401.out) hb); have n1_ := Aside0.mk (Kd.R_lower ho0 (below_size (by repeat (first | (with_reducible first | exact HB.out | apply below_alloc | apply pw_below_drewN | apply below_drew1) | exact HB.out)))); have n2_ := Aside0.mk (below_step (by repeat (first | (with_reducible first | exact HB.out | apply below_alloc | apply pw_below_drewN | apply below_drew1) | exact HB.out)) hb); clear HO401; clear HB; have HO401 := n0_; have HO405 := n1_; have HB := n2_; clear n0_ n1_ n2_; (try clear hb); (try clear hb2); (try clear hk); (try clear hi); (try clear ho0)) | (go_at_call 81; (first | (with_reducible refine (impl_LargestShare.calls kj9 _ _ t397 t398 t399 t406 t407 t408 _ ?side1 ?side2 A40.out).mono ?_) | ((try simp only [Go.IntWalk.i64_left]); (with_reducible refine (impl_LargestShare.calls kj9 _ _ t397 t398 t399 t406 t407 t408 _ ?side1 ?side2 A40.out).mono ?_))); (case side1 => repeat (first | exact (Kd.R_reads' HO401.out).2.2 | (with_reducible refine Kd.C_alloc ?_ _) | (with_reducible refine Kd.C_drewN ?_ _) | (with_reducible refine Kd.C_drew ?_))); (case side2 => exact (Kd.R_reads' HO401.out).2.1); rintro e w89 ⟨rfl, hb⟩; have n0_ := Aside0.mk (Kd.R_below (by (with_reducible repeat (first | apply Kd.R_alloc | apply Kd.R_drewN | apply Kd.R_drew)); exact HO401.out) hb); have n1_ := Aside0.mk (Kd.R_below (by (with_reducible repeat (first | apply Kd.R_alloc | apply Kd.R_drewN | apply Kd.R_drew)); exact HO405.out) hb); have n2_ := Aside0.mk (below_step (by repeat (first | (with_reducible first | exact HB.out | apply below_alloc | apply pw_below_drewN | apply below_drew1) | exact HB.out)) hb); clear HO401; clear HO405; clear HB; have HO401 := n0_; have HO405 := n1_; have HB := n2_; clear n0_ n1_ n2_; (try clear hb); (try clear hb2); (try clear hk); (try clear hi))); try go_wp2_with (first | (go_at_call 79; (first | (with_reducible refine (spec_DrawLargestShare.calls kj9 _ _ l1 t397 t398 t399 _ ?side1 ?side2 A38.out).mono ?_) | ((try simp only [Go.IntWalk.i64_left]); (with_reducible refine (spec_DrawLargestShare.calls kj9 _ _ l1 t397 t398 t399 _ ?side1 ?side2 A38.out).mono ?_))); (case side1 => repeat (first | exact (Kd.C_below HR1.out HB.out) | (with_reducible refine Kd.C_alloc ?_ _) | (with_reducible refine Kd.C_drewN ?_ _) | (with_reducible refine Kd.C_drew ?_))); (case side2 => exact HC1.out); rintro e w86 ⟨v400, rfl, ho0, hb⟩; have n0_ := Aside0.mk (Kd.R_lower ho0 (below_size (by repeat (first | (with_reducible first | exact HB.out | apply below_alloc | apply pw_below_drewN | apply below_drew1) | exact HB.out)))); have n1_ := Aside0.mk (below_step (by repeat (first | (with_reducible first | exact HB.out | apply below_alloc | apply pw_below_drewN | apply below_drew1) | exact HB.out)) hb); clear HB; have HO401 := n0_; have HB := n1_; clear n0_ n1_; (try clear hb); (try clear hb2); (try clear hk); (try clear hi); (try clear ho0); obtain ⟨Ao87, co87, eo87⟩ := Kd.R_slice HO401.out; subst eo87) | (go_at_call 80; (first | (with_reducible refine (impl_HeatBill.calls kj9 _ _ t397 t398 t399 t402 t403 _ ?side1 ?side2 A39.out).mono ?_) | ((try simp only [Go.IntWalk.i64_left]); (with_reducible refine (impl_HeatBill.calls kj9 _ _ t397 t398 t399 t402 t403 _ ?side1 ?side2 A39.out).mono ?_))); (case side1 => repeat (first | exact (Kd.R_reads' HO401.out).2.2 | (with_reducible refine Kd.C_alloc ?_ _) | (with_reducible refine Kd.C_drewN ?_ _) | (with_reducible refine Kd.C_drew ?_))); (case side2 => exact (Kd.R_reads' HO401.out).2.1); rintro e w88 ⟨v404, rfl, ho0, hb⟩; have n0_ := Aside0.mk (Kd.R_below (by (with_reducible repeat (first | apply Kd.R_alloc | apply Kd.R_drewN | apply Kd.R_drew)); exact HO401.out) hb); have n1_ := Aside0.mk (Kd.R_lower ho0 (below_size (by repeat (first | (with_reducible first | exact HB.out | apply below_alloc | apply pw_below_drewN | apply below_drew1) | exact HB.out)))); have n2_ := Aside0.mk (below_step (by repeat (first | (with_reducible first | exact HB.out | apply below_alloc | apply pw_below_drewN | apply below_drew1) | exact HB.out)) hb); clear HO401; clear HB; have HO401 := n0_; have HO405 := n1_; have HB := n2_; clear n0_ n1_ n2_; (try clear hb); (try clear hb2); (try clear hk); (try clear hi); (try clear ho0)) | (go_at_call 81; (first | (with_reducible refine (impl_LargestShare.calls kj9 _ _ t397 t398 t399 t406 t407 t408 _ ?side1 ?side2 A40.out).mono ?_) | ((try simp only [Go.IntWalk.i64_left]); (with_reducible refine (impl_LargestShare.calls kj9 _ _ t397 t398 t399 t406 t407 t408 _ ?side1 ?side2 A40.out).mono ?_))); (case side1 => repeat (first | exact (Kd.R_reads' HO401.out).2.2 | (with_reducible refine Kd.C_alloc ?_ _) | (with_reducible refine Kd.C_drewN ?_ _) | (with_reducible refine Kd.C_drew ?_))); (case side2 => exact (Kd.R_reads' HO401.out).2.1); rintro e w89 ⟨rfl, hb⟩; have n0_ := Aside0.mk (Kd.R_below (by (with_reducible repeat (first | apply Kd.R_alloc | apply Kd.R_drewN | apply Kd.R_drew)); exact HO401.out) hb); have n1_ := Aside0.mk (Kd.R_below (by (with_reducible repeat (first | apply Kd.R_alloc | apply Kd.R_drewN | apply Kd.R_drew)); exact HO405.out) hb); have n2_ := Aside0.mk (below_step (by repeat (first | (with_reducible first | exact HB.out | apply below_alloc | apply pw_below_drewN | apply below_drew1) | exact HB.out)) hb); clear HO401; clear HO405; clear HB; have HO401 := n0_; have HO405 := n1_; have HB := n2_; clear n0_ n1_ n2_; (try clear hb); (try clear hb2); (try clear hk); (try clear hi))))
              go_ret
              exact ⟨by first | rfl | (simp [errW_none, errW_some] <;> rfl) | (simp [*, errW_none, errW_some] <;> rfl), by repeat (first | (with_reducible first | exact HB.out | apply below_alloc | apply pw_below_drewN | apply below_drew1) | exact HB.out)⟩

end Go.Proofs.Ytglhbjmagfchiaa.QShares
