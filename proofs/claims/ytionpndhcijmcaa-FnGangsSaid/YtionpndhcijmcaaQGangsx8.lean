-- Written by press.py, a program of this session, round the kit's print.py (functions and contracts; Lean checks them).
import Derived.Test.YtionpndhcijmcaaQGangsx0
import Derived.Test.YtionpndhcijmcaaQGangsx4
import Derived.Test.YtionpndhcijmcaaQGangsx5
import Derived.Test.YtionpndhcijmcaaQGangsx7
namespace Go.Proofs.Ytionpndhcijmcaa.QGangs
open Go.Proofs.Ytionpndhcijmcaa.QWords
attribute [local go_sem high] binOp_string_geq_q binOp_string_leq_q binOp_string_gtr_q
open Go.RowKit Go.Proofs.YtionpndhcijmcaaW.PrintWords Go.Proofs.YtionpndhcijmcaaW.PrintLast Go.Proofs.YtionpndhcijmcaaW.PrintMore
attribute [local go_sem] max2_int min2_int max_two min_two max_three min_three max_four min_four   -- for this text's walks alone
set_option linter.unusedVariables false
set_option linter.unusedSimpArgs false

/-! ### laws_FnGangs: function 10 -/
mutual
def laws_FnGangs.j0 : Nat → List Int → List Int → Bool → Option (Bool)
 | 0, _, _, _ => none
 | k + 1, x0, x1, x35 => if x35 = true then (some true) else ((spec_DrawGangEnds.f k x0).bind fun bt385 => ((impl_GangEnds.f k bt385.1 bt385.2.1 bt385.2.2).bind fun bt392 => (if bt392.2 = 0 then ((impl_GangEnds.f k bt385.1 bt385.2.1 1).bind fun bt396 => ((impl_EndTimes.f k bt385.1 bt385.2.1).bind fun bt400 => ((impl_LatestEnd.f k bt385.1 bt385.2.1 bt385.2.2).bind fun bt404 => ((impl_DoneBy.f k bt385.1 bt385.2.1 bt385.2.2 bt404.1).bind fun bt406 => (if bt396.2 = 0 then (if bt400.2 = 0 then ((laws_b10Nums.f k bt396.1 bt400.1).bind fun t410 => (if t410 = true then (if bt404.2 = 0 then (if bt406.2 = 0 then (if (bt406.1.length : Int) = (bt385.1.length : Int) then (laws_FnGangs.j1 k x1 bt385.1 bt385.2.2 bt392.1 bt404.1 ((bt392.1.length : Int) != (bt385.1.length : Int))) else (laws_FnGangs.j1 k x1 bt385.1 bt385.2.2 bt392.1 bt404.1 true)) else (laws_FnGangs.j1 k x1 bt385.1 bt385.2.2 bt392.1 bt404.1 true)) else (laws_FnGangs.j1 k x1 bt385.1 bt385.2.2 bt392.1 bt404.1 true)) else (laws_FnGangs.j1 k x1 bt385.1 bt385.2.2 bt392.1 bt404.1 true))) else (laws_FnGangs.j1 k x1 bt385.1 bt385.2.2 bt392.1 bt404.1 true)) else (laws_FnGangs.j1 k x1 bt385.1 bt385.2.2 bt392.1 bt404.1 true)))))) else (laws_FnGangs.j5 k x1))))
def laws_FnGangs.j5 : Nat → List Int → Option (Bool)
 | 0, _ => none
 | k + 1, x1 => (spec_DrawFewestGangs.f k x1).bind fun bt422 => ((impl_FewestGangs.f k bt422.1 bt422.2.1 bt422.2.2).bind fun bt429 => (if bt429.2 = 0 then ((impl_LatestEnd.f k bt422.1 bt422.2.1 bt429.1).bind fun bt431 => (if bt431.2 = 0 then (if bt431.1 > bt422.2.2 then (some false) else ((impl_LatestEnd.f k bt422.1 bt422.2.1 (wrap64 (bt429.1 - 1))).bind fun bt433 => (if bt433.2 = 0 then (some (decide (bt433.1 > bt422.2.2))) else (some true)))) else (some false))) else (some (bt429.1 == 0))))
def laws_FnGangs.j1 : Nat → List Int → List (S47) → Int → List Int → Int → Bool → Option (Bool)
 | 0, _, _, _, _, _, _ => none
 | k + 1, x1, x5, x7, x8, x14, x111 => if x111 = true then (some false) else (laws_FnGangs.l0 k x1 x5 x7 x8 x14 0)
def laws_FnGangs.l0 : Nat → List Int → List (S47) → Int → List Int → Int → Int → Option (Bool)
 | 0, _, _, _, _, _, _ => none
 | k + 1, x1, x5, x7, x8, x14, x18 => if x18 < (x5.length : Int) then (if 0 ≤ x18 then (if x18 < (x8.length : Int) then (if (rd x8 x18) > x14 then (laws_FnGangs.j3 k x1 x5 x7 x8 x14 x18 true) else (laws_FnGangs.j3 k x1 x5 x7 x8 x14 x18 (decide ((rd x8 x18) < (wrap64 (((rd_T47 x5 x18).f3) + ((rd_T47 x5 x18).f1))))))) else (none)) else (none)) else (laws_FnGangs.j5 k x1)
def laws_FnGangs.j3 : Nat → List Int → List (S47) → Int → List Int → Int → Int → Bool → Option (Bool)
 | 0, _, _, _, _, _, _, _ => none
 | k + 1, x1, x5, x7, x8, x14, x18, x141 => if x141 = true then (some false) else (laws_FnGangs.l1 k x1 x5 x7 x8 x14 x18 0 0)
def laws_FnGangs.l1 : Nat → List Int → List (S47) → Int → List Int → Int → Int → Int → Int → Option (Bool)
 | 0, _, _, _, _, _, _, _, _ => none
 | k + 1, x1, x5, x7, x8, x14, x18, x19, x20 => if x20 < (x5.length : Int) then (if 0 ≤ x20 then (if x20 < (x8.length : Int) then (if 0 ≤ x18 then (if x18 < (x8.length : Int) then (if x18 < (x5.length : Int) then (if (wrap64 ((rd x8 x20) - ((rd_T47 x5 x20).f1))) ≤ (wrap64 ((rd x8 x18) - ((rd_T47 x5 x18).f1))) then (if (rd x8 x20) > (wrap64 ((rd x8 x18) - ((rd_T47 x5 x18).f1))) then (laws_FnGangs.l1 k x1 x5 x7 x8 x14 x18 (wrap64 (x19 + 1)) (wrap64 (x20 + 1))) else (laws_FnGangs.l1 k x1 x5 x7 x8 x14 x18 x19 (wrap64 (x20 + 1)))) else (laws_FnGangs.l1 k x1 x5 x7 x8 x14 x18 x19 (wrap64 (x20 + 1)))) else (none)) else (none)) else (none)) else (none)) else (none)) else (if x19 > x7 then (some false) else (laws_FnGangs.l0 k x1 x5 x7 x8 x14 (wrap64 (x18 + 1))))
end
def laws_FnGangs.f (k : Nat) (l0 : List Int) (l1 : List Int) : Option (Bool) := (laws_b10Long.f l0).bind fun t383 => (if t383 = true then (laws_FnGangs.j0 k l0 l1 true) else ((laws_b10Long.f l1).bind fun t384 => (laws_FnGangs.j0 k l0 l1 t384)))
theorem laws_FnGangs.mono_l : ∀ k, (∀ y0 y1 y2, LeO (laws_FnGangs.j0 k y0 y1 y2) (laws_FnGangs.j0 (k + 1) y0 y1 y2)) ∧ (∀ y0, LeO (laws_FnGangs.j5 k y0) (laws_FnGangs.j5 (k + 1) y0)) ∧ (∀ y0 y1 y2 y3 y4 y5, LeO (laws_FnGangs.j1 k y0 y1 y2 y3 y4 y5) (laws_FnGangs.j1 (k + 1) y0 y1 y2 y3 y4 y5)) ∧ (∀ y0 y1 y2 y3 y4 y5, LeO (laws_FnGangs.l0 k y0 y1 y2 y3 y4 y5) (laws_FnGangs.l0 (k + 1) y0 y1 y2 y3 y4 y5)) ∧ (∀ y0 y1 y2 y3 y4 y5 y6, LeO (laws_FnGangs.j3 k y0 y1 y2 y3 y4 y5 y6) (laws_FnGangs.j3 (k + 1) y0 y1 y2 y3 y4 y5 y6)) ∧ (∀ y0 y1 y2 y3 y4 y5 y6 y7, LeO (laws_FnGangs.l1 k y0 y1 y2 y3 y4 y5 y6 y7) (laws_FnGangs.l1 (k + 1) y0 y1 y2 y3 y4 y5 y6 y7))
 | 0 => ⟨fun _ _ _ r h => by simp [laws_FnGangs.j0] at h, fun _ r h => by simp [laws_FnGangs.j5] at h, fun _ _ _ _ _ _ r h => by simp [laws_FnGangs.j1] at h, fun _ _ _ _ _ _ r h => by simp [laws_FnGangs.l0] at h, fun _ _ _ _ _ _ _ r h => by simp [laws_FnGangs.j3] at h, fun _ _ _ _ _ _ _ _ r h => by simp [laws_FnGangs.l1] at h⟩
 | k + 1 => by
  obtain ⟨ih0, ih1, ih2, ih3, ih4, ih5⟩ := laws_FnGangs.mono_l k
  refine ⟨?_, ?_, ?_, ?_, ?_, ?_⟩
  ·intro y0 y1 y2
   unfold laws_FnGangs.j0
   repeat' first
   | (with_reducible exact ih0 _ _ _)
   | (with_reducible exact ih1 _)
   | (with_reducible exact ih2 _ _ _ _ _ _)
   | (with_reducible exact ih3 _ _ _ _ _ _)
   | (with_reducible exact ih4 _ _ _ _ _ _ _)
   | (with_reducible exact ih5 _ _ _ _ _ _ _ _)
   | (with_reducible exact impl_DoneBy.mono _ _ _ _ _)
   | (with_reducible exact impl_EndTimes.mono _ _ _)
   | (with_reducible exact impl_FewestGangs.mono _ _ _ _)
   | (with_reducible exact impl_GangEnds.mono _ _ _ _)
   | (with_reducible exact impl_LatestEnd.mono _ _ _ _)
   | (with_reducible exact laws_b10Nums.mono _ _ _)
   | (with_reducible exact spec_DrawFewestGangs.mono _ _)
   | (with_reducible exact spec_DrawGangEnds.mono _ _)
   | (with_reducible exact LeO.refl _)
   | (with_reducible exact LeO.none _)
   | (with_reducible refine LeO.ite ?_ ?_)
   | (with_reducible refine LeO.bind ?_ (fun _ => ?_))
   | exact ih0 _ _ _
   | exact ih1 _
   | exact ih2 _ _ _ _ _ _
   | exact ih3 _ _ _ _ _ _
   | exact ih4 _ _ _ _ _ _ _
   | exact ih5 _ _ _ _ _ _ _ _
   | exact impl_DoneBy.mono _ _ _ _ _
   | exact impl_EndTimes.mono _ _ _
   | exact impl_FewestGangs.mono _ _ _ _
   | exact impl_GangEnds.mono _ _ _ _
   | exact impl_LatestEnd.mono _ _ _ _
   | exact laws_b10Nums.mono _ _ _
   | exact spec_DrawFewestGangs.mono _ _
   | exact spec_DrawGangEnds.mono _ _
   | exact LeO.none _
   | refine LeO.ite ?_ ?_
   | refine LeO.bind ?_ (fun _ => ?_)
  ·intro y0
   unfold laws_FnGangs.j5
   repeat' first
   | (with_reducible exact ih0 _ _ _)
   | (with_reducible exact ih1 _)
   | (with_reducible exact ih2 _ _ _ _ _ _)
   | (with_reducible exact ih3 _ _ _ _ _ _)
   | (with_reducible exact ih4 _ _ _ _ _ _ _)
   | (with_reducible exact ih5 _ _ _ _ _ _ _ _)
   | (with_reducible exact impl_DoneBy.mono _ _ _ _ _)
   | (with_reducible exact impl_EndTimes.mono _ _ _)
   | (with_reducible exact impl_FewestGangs.mono _ _ _ _)
   | (with_reducible exact impl_GangEnds.mono _ _ _ _)
   | (with_reducible exact impl_LatestEnd.mono _ _ _ _)
   | (with_reducible exact laws_b10Nums.mono _ _ _)
   | (with_reducible exact spec_DrawFewestGangs.mono _ _)
   | (with_reducible exact spec_DrawGangEnds.mono _ _)
   | (with_reducible exact LeO.refl _)
   | (with_reducible exact LeO.none _)
   | (with_reducible refine LeO.ite ?_ ?_)
   | (with_reducible refine LeO.bind ?_ (fun _ => ?_))
   | exact ih0 _ _ _
   | exact ih1 _
   | exact ih2 _ _ _ _ _ _
   | exact ih3 _ _ _ _ _ _
   | exact ih4 _ _ _ _ _ _ _
   | exact ih5 _ _ _ _ _ _ _ _
   | exact impl_DoneBy.mono _ _ _ _ _
   | exact impl_EndTimes.mono _ _ _
   | exact impl_FewestGangs.mono _ _ _ _
   | exact impl_GangEnds.mono _ _ _ _
   | exact impl_LatestEnd.mono _ _ _ _
   | exact laws_b10Nums.mono _ _ _
   | exact spec_DrawFewestGangs.mono _ _
   | exact spec_DrawGangEnds.mono _ _
   | exact LeO.none _
   | refine LeO.ite ?_ ?_
   | refine LeO.bind ?_ (fun _ => ?_)
  ·intro y0 y1 y2 y3 y4 y5
   unfold laws_FnGangs.j1
   repeat' first
   | (with_reducible exact ih0 _ _ _)
   | (with_reducible exact ih1 _)
   | (with_reducible exact ih2 _ _ _ _ _ _)
   | (with_reducible exact ih3 _ _ _ _ _ _)
   | (with_reducible exact ih4 _ _ _ _ _ _ _)
   | (with_reducible exact ih5 _ _ _ _ _ _ _ _)
   | (with_reducible exact impl_DoneBy.mono _ _ _ _ _)
   | (with_reducible exact impl_EndTimes.mono _ _ _)
   | (with_reducible exact impl_FewestGangs.mono _ _ _ _)
   | (with_reducible exact impl_GangEnds.mono _ _ _ _)
   | (with_reducible exact impl_LatestEnd.mono _ _ _ _)
   | (with_reducible exact laws_b10Nums.mono _ _ _)
   | (with_reducible exact spec_DrawFewestGangs.mono _ _)
   | (with_reducible exact spec_DrawGangEnds.mono _ _)
   | (with_reducible exact LeO.refl _)
   | (with_reducible exact LeO.none _)
   | (with_reducible refine LeO.ite ?_ ?_)
   | (with_reducible refine LeO.bind ?_ (fun _ => ?_))
   | exact ih0 _ _ _
   | exact ih1 _
   | exact ih2 _ _ _ _ _ _
   | exact ih3 _ _ _ _ _ _
   | exact ih4 _ _ _ _ _ _ _
   | exact ih5 _ _ _ _ _ _ _ _
   | exact impl_DoneBy.mono _ _ _ _ _
   | exact impl_EndTimes.mono _ _ _
   | exact impl_FewestGangs.mono _ _ _ _
   | exact impl_GangEnds.mono _ _ _ _
   | exact impl_LatestEnd.mono _ _ _ _
   | exact laws_b10Nums.mono _ _ _
   | exact spec_DrawFewestGangs.mono _ _
   | exact spec_DrawGangEnds.mono _ _
   | exact LeO.none _
   | refine LeO.ite ?_ ?_
   | refine LeO.bind ?_ (fun _ => ?_)
  ·intro y0 y1 y2 y3 y4 y5
   unfold laws_FnGangs.l0
   repeat' first
   | (with_reducible exact ih0 _ _ _)
   | (with_reducible exact ih1 _)
   | (with_reducible exact ih2 _ _ _ _ _ _)
   | (with_reducible exact ih3 _ _ _ _ _ _)
   | (with_reducible exact ih4 _ _ _ _ _ _ _)
   | (with_reducible exact ih5 _ _ _ _ _ _ _ _)
   | (with_reducible exact impl_DoneBy.mono _ _ _ _ _)
   | (with_reducible exact impl_EndTimes.mono _ _ _)
   | (with_reducible exact impl_FewestGangs.mono _ _ _ _)
   | (with_reducible exact impl_GangEnds.mono _ _ _ _)
   | (with_reducible exact impl_LatestEnd.mono _ _ _ _)
   | (with_reducible exact laws_b10Nums.mono _ _ _)
   | (with_reducible exact spec_DrawFewestGangs.mono _ _)
   | (with_reducible exact spec_DrawGangEnds.mono _ _)
   | (with_reducible exact LeO.refl _)
   | (with_reducible exact LeO.none _)
   | (with_reducible refine LeO.ite ?_ ?_)
   | (with_reducible refine LeO.bind ?_ (fun _ => ?_))
   | exact ih0 _ _ _
   | exact ih1 _
   | exact ih2 _ _ _ _ _ _
   | exact ih3 _ _ _ _ _ _
   | exact ih4 _ _ _ _ _ _ _
   | exact ih5 _ _ _ _ _ _ _ _
   | exact impl_DoneBy.mono _ _ _ _ _
   | exact impl_EndTimes.mono _ _ _
   | exact impl_FewestGangs.mono _ _ _ _
   | exact impl_GangEnds.mono _ _ _ _
   | exact impl_LatestEnd.mono _ _ _ _
   | exact laws_b10Nums.mono _ _ _
   | exact spec_DrawFewestGangs.mono _ _
   | exact spec_DrawGangEnds.mono _ _
   | exact LeO.none _
   | refine LeO.ite ?_ ?_
   | refine LeO.bind ?_ (fun _ => ?_)
  ·intro y0 y1 y2 y3 y4 y5 y6
   unfold laws_FnGangs.j3
   repeat' first
   | (with_reducible exact ih0 _ _ _)
   | (with_reducible exact ih1 _)
   | (with_reducible exact ih2 _ _ _ _ _ _)
   | (with_reducible exact ih3 _ _ _ _ _ _)
   | (with_reducible exact ih4 _ _ _ _ _ _ _)
   | (with_reducible exact ih5 _ _ _ _ _ _ _ _)
   | (with_reducible exact impl_DoneBy.mono _ _ _ _ _)
   | (with_reducible exact impl_EndTimes.mono _ _ _)
   | (with_reducible exact impl_FewestGangs.mono _ _ _ _)
   | (with_reducible exact impl_GangEnds.mono _ _ _ _)
   | (with_reducible exact impl_LatestEnd.mono _ _ _ _)
   | (with_reducible exact laws_b10Nums.mono _ _ _)
   | (with_reducible exact spec_DrawFewestGangs.mono _ _)
   | (with_reducible exact spec_DrawGangEnds.mono _ _)
   | (with_reducible exact LeO.refl _)
   | (with_reducible exact LeO.none _)
   | (with_reducible refine LeO.ite ?_ ?_)
   | (with_reducible refine LeO.bind ?_ (fun _ => ?_))
   | exact ih0 _ _ _
   | exact ih1 _
   | exact ih2 _ _ _ _ _ _
   | exact ih3 _ _ _ _ _ _
   | exact ih4 _ _ _ _ _ _ _
   | exact ih5 _ _ _ _ _ _ _ _
   | exact impl_DoneBy.mono _ _ _ _ _
   | exact impl_EndTimes.mono _ _ _
   | exact impl_FewestGangs.mono _ _ _ _
   | exact impl_GangEnds.mono _ _ _ _
   | exact impl_LatestEnd.mono _ _ _ _
   | exact laws_b10Nums.mono _ _ _
   | exact spec_DrawFewestGangs.mono _ _
   | exact spec_DrawGangEnds.mono _ _
   | exact LeO.none _
   | refine LeO.ite ?_ ?_
   | refine LeO.bind ?_ (fun _ => ?_)
  ·intro y0 y1 y2 y3 y4 y5 y6 y7
   unfold laws_FnGangs.l1
   repeat' first
   | (with_reducible exact ih0 _ _ _)
   | (with_reducible exact ih1 _)
   | (with_reducible exact ih2 _ _ _ _ _ _)
   | (with_reducible exact ih3 _ _ _ _ _ _)
   | (with_reducible exact ih4 _ _ _ _ _ _ _)
   | (with_reducible exact ih5 _ _ _ _ _ _ _ _)
   | (with_reducible exact impl_DoneBy.mono _ _ _ _ _)
   | (with_reducible exact impl_EndTimes.mono _ _ _)
   | (with_reducible exact impl_FewestGangs.mono _ _ _ _)
   | (with_reducible exact impl_GangEnds.mono _ _ _ _)
   | (with_reducible exact impl_LatestEnd.mono _ _ _ _)
   | (with_reducible exact laws_b10Nums.mono _ _ _)
   | (with_reducible exact spec_DrawFewestGangs.mono _ _)
   | (with_reducible exact spec_DrawGangEnds.mono _ _)
   | (with_reducible exact LeO.refl _)
   | (with_reducible exact LeO.none _)
   | (with_reducible refine LeO.ite ?_ ?_)
   | (with_reducible refine LeO.bind ?_ (fun _ => ?_))
   | exact ih0 _ _ _
   | exact ih1 _
   | exact ih2 _ _ _ _ _ _
   | exact ih3 _ _ _ _ _ _
   | exact ih4 _ _ _ _ _ _ _
   | exact ih5 _ _ _ _ _ _ _ _
   | exact impl_DoneBy.mono _ _ _ _ _
   | exact impl_EndTimes.mono _ _ _
   | exact impl_FewestGangs.mono _ _ _ _
   | exact impl_GangEnds.mono _ _ _ _
   | exact impl_LatestEnd.mono _ _ _ _
   | exact laws_b10Nums.mono _ _ _
   | exact spec_DrawFewestGangs.mono _ _
   | exact spec_DrawGangEnds.mono _ _
   | exact LeO.none _
   | refine LeO.ite ?_ ?_
   | refine LeO.bind ?_ (fun _ => ?_)
theorem laws_FnGangs.mono : ∀ a0 a1 k, LeO (laws_FnGangs.f k a0 a1) (laws_FnGangs.f (k + 1) a0 a1) := by
 intro a0 a1 k
 obtain ⟨ih0, ih1, ih2, ih3, ih4, ih5⟩ := laws_FnGangs.mono_l k
 unfold laws_FnGangs.f
 repeat' first
   | (with_reducible exact ih0 _ _ _)
   | (with_reducible exact ih1 _)
   | (with_reducible exact ih2 _ _ _ _ _ _)
   | (with_reducible exact ih3 _ _ _ _ _ _)
   | (with_reducible exact ih4 _ _ _ _ _ _ _)
   | (with_reducible exact ih5 _ _ _ _ _ _ _ _)
   | (with_reducible exact impl_DoneBy.mono _ _ _ _ _)
   | (with_reducible exact impl_EndTimes.mono _ _ _)
   | (with_reducible exact impl_FewestGangs.mono _ _ _ _)
   | (with_reducible exact impl_GangEnds.mono _ _ _ _)
   | (with_reducible exact impl_LatestEnd.mono _ _ _ _)
   | (with_reducible exact laws_b10Nums.mono _ _ _)
   | (with_reducible exact spec_DrawFewestGangs.mono _ _)
   | (with_reducible exact spec_DrawGangEnds.mono _ _)
   | (with_reducible exact LeO.refl _)
   | (with_reducible exact LeO.none _)
   | (with_reducible refine LeO.ite ?_ ?_)
   | (with_reducible refine LeO.bind ?_ (fun _ => ?_))
   | exact ih0 _ _ _
   | exact ih1 _
   | exact ih2 _ _ _ _ _ _
   | exact ih3 _ _ _ _ _ _
   | exact ih4 _ _ _ _ _ _ _
   | exact ih5 _ _ _ _ _ _ _ _
   | exact impl_DoneBy.mono _ _ _ _ _
   | exact impl_EndTimes.mono _ _ _
   | exact impl_FewestGangs.mono _ _ _ _
   | exact impl_GangEnds.mono _ _ _ _
   | exact impl_LatestEnd.mono _ _ _ _
   | exact laws_b10Nums.mono _ _ _
   | exact spec_DrawFewestGangs.mono _ _
   | exact spec_DrawGangEnds.mono _ _
   | exact LeO.none _
   | refine LeO.ite ?_ ?_
   | refine LeO.bind ?_ (fun _ => ?_)
set_option maxHeartbeats 8000000 in
set_option maxRecDepth 100000 in
theorem laws_FnGangs.calls (k : Nat) (A0 : Option Addr) (c0 : Nat) (l0 : List Int) (A1 : Option Addr) (c1 : Nat) (l1 : List Int) (r : Bool) (w : World) (hr0 : Kd.C (Kd.int .u8) w A0 l0.length l0) (hc0 : l0.length ≤ c0) (hr1 : Kd.C (Kd.int .u8) w A1 l1.length l1) (hc1 : l1.length ≤ c1) (h : laws_FnGangs.f k l0 l1 = some r) :
  Calls Try.prog 10 #[.slice A0 l0.length c0, .slice A1 l1.length c1] w fun e w' => e = .returned (.bool r) ∧ Below w.heap.size w w' := by
 have HR0 := Aside0.mk hr0
 have HC0 := Aside0.mk hc0
 clear hr0 hc0
 have HR1 := Aside0.mk hr1
 have HC1 := Aside0.mk hc1
 clear hr1 hc1
 have HB := Aside0.mk (Below.refl w.heap.size w)
 have H : ((laws_b10Long.f l0).bind fun t383 => (if t383 = true then (laws_FnGangs.j0 k l0 l1 true) else ((laws_b10Long.f l1).bind fun t384 => (laws_FnGangs.j0 k l0 l1 t384)))) = some r := h
 clear h
 have HC3 := Aside0.mk H
 clear H
 go_enter Try.func10, Try.ntmps10
 go_upto_region 1 with (fail)
 repeat (go_quiet (fail); go_upto_region 1 with (fail))
 go_cut [35] (fun v35 wc => ∃ (kq : Nat) (x35_2 : Bool), v35 = .bool x35_2 ∧ Aside0 (laws_FnGangs.j0 kq l0 l1 x35_2 = some r) ∧ Aside0 (kq ≤ k) ∧ Aside0 (Below w.heap.size w wc))
 case first =>
  have H := HC3.out
  clear HC3
  replace H := Option.bind_eq_some_iff.mp H
  obtain ⟨t383, A40, H⟩ := H
  replace H : (if t383 = true then (laws_FnGangs.j0 k l0 l1 true) else ((laws_b10Long.f l1).bind fun t384 => (laws_FnGangs.j0 k l0 l1 t384))) = some r := H
  have A4 := Aside0.mk A40
  clear A40
  by_cases c5 : t383 = true
  ·subst c5
   have H1 : (laws_FnGangs.j0 k l0 l1 true) = some r := by rw [if_pos rfl] at H; exact H
   clear H
   have H := H1
   clear H1
   have H' := Aside0.mk H
   clear H
   go_wp2_with (first | (go_at_call 37; (first | (with_reducible refine (laws_b10Long.calls _ _ l0 true _ ?side1 ?side2 A4.out).mono ?_) | ((try simp only [Go.IntWalk.i64_left]); (with_reducible refine (laws_b10Long.calls _ _ l0 true _ ?side1 ?side2 A4.out).mono ?_))); (case side1 => repeat (first | exact (Kd.C_below HR0.out HB.out) | (with_reducible refine Kd.C_alloc ?_ _) | (with_reducible refine Kd.C_drewN ?_ _) | (with_reducible refine Kd.C_drew ?_))); (case side2 => exact HC0.out); rintro e w' ⟨rfl, ⟨nd, rfl⟩⟩; (try first | exact ⟨rfl, _, World.drewN_drewN _ _ _⟩ | exact ⟨rfl, _, Eq.trans (World.drewN_drewN _ _ _) (congrArg (World.drewN _) (Nat.add_assoc _ _ _))⟩)))
   repeat (go_quiet (first | (go_at_call 37; (first | (with_reducible refine (laws_b10Long.calls _ _ l0 true _ ?side1 ?side2 A4.out).mono ?_) | ((try simp only [Go.IntWalk.i64_left]); (with_reducible refine (laws_b10Long.calls _ _ l0 true _ ?side1 ?side2 A4.out).mono ?_))); (case side1 => repeat (first | exact (Kd.C_below HR0.out HB.out) | (with_reducible refine Kd.C_alloc ?_ _) | (with_reducible refine Kd.C_drewN ?_ _) | (with_reducible refine Kd.C_drew ?_))); (case side2 => exact HC0.out); rintro e w' ⟨rfl, ⟨nd, rfl⟩⟩; (try first | exact ⟨rfl, _, World.drewN_drewN _ _ _⟩ | exact ⟨rfl, _, Eq.trans (World.drewN_drewN _ _ _) (congrArg (World.drewN _) (Nat.add_assoc _ _ _))⟩))); try go_wp2_with (first | (go_at_call 37; (first | (with_reducible refine (laws_b10Long.calls _ _ l0 true _ ?side1 ?side2 A4.out).mono ?_) | ((try simp only [Go.IntWalk.i64_left]); (with_reducible refine (laws_b10Long.calls _ _ l0 true _ ?side1 ?side2 A4.out).mono ?_))); (case side1 => repeat (first | exact (Kd.C_below HR0.out HB.out) | (with_reducible refine Kd.C_alloc ?_ _) | (with_reducible refine Kd.C_drewN ?_ _) | (with_reducible refine Kd.C_drew ?_))); (case side2 => exact HC0.out); rintro e w' ⟨rfl, ⟨nd, rfl⟩⟩; (try first | exact ⟨rfl, _, World.drewN_drewN _ _ _⟩ | exact ⟨rfl, _, Eq.trans (World.drewN_drewN _ _ _) (congrArg (World.drewN _) (Nat.add_assoc _ _ _))⟩))))
   go_meet
   case rel => exact ⟨_, (true), (by first | rfl | (simp; done) | (simp [*]; done)), H', ⟨by first | omega | exact Nat.le_refl _⟩, ⟨by repeat (first | (with_reducible first | exact HB.out | apply below_alloc | apply pw_below_drewN | apply below_drew1) | exact HB.out)⟩⟩
  ·replace c5 := Bool.eq_false_iff.mpr c5
   subst c5
   have H1 : ((laws_b10Long.f l1).bind fun t384 => (laws_FnGangs.j0 k l0 l1 t384)) = some r := by rw [if_neg (show ¬ (false = true) by decide)] at H; exact H
   clear H
   have H := H1
   clear H1
   replace H := Option.bind_eq_some_iff.mp H
   obtain ⟨t384, A60, H⟩ := H
   replace H : (laws_FnGangs.j0 k l0 l1 t384) = some r := H
   have A6 := Aside0.mk A60
   clear A60
   have H' := Aside0.mk H
   clear H
   go_wp2_with (first | (go_at_call 37; (first | (with_reducible refine (laws_b10Long.calls _ _ l0 false _ ?side1 ?side2 A4.out).mono ?_) | ((try simp only [Go.IntWalk.i64_left]); (with_reducible refine (laws_b10Long.calls _ _ l0 false _ ?side1 ?side2 A4.out).mono ?_))); (case side1 => repeat (first | exact (Kd.C_below HR0.out HB.out) | (with_reducible refine Kd.C_alloc ?_ _) | (with_reducible refine Kd.C_drewN ?_ _) | (with_reducible refine Kd.C_drew ?_))); (case side2 => exact HC0.out); rintro e w' ⟨rfl, ⟨nd, rfl⟩⟩; (try first | exact ⟨rfl, _, World.drewN_drewN _ _ _⟩ | exact ⟨rfl, _, Eq.trans (World.drewN_drewN _ _ _) (congrArg (World.drewN _) (Nat.add_assoc _ _ _))⟩)) | (go_at_call 37; (first | (with_reducible refine (laws_b10Long.calls _ _ l1 t384 _ ?side1 ?side2 A6.out).mono ?_) | ((try simp only [Go.IntWalk.i64_left]); (with_reducible refine (laws_b10Long.calls _ _ l1 t384 _ ?side1 ?side2 A6.out).mono ?_))); (case side1 => repeat (first | exact (Kd.C_below HR1.out (by repeat (first | (with_reducible first | exact HB.out | apply below_alloc | apply pw_below_drewN | apply below_drew1) | exact HB.out))) | (with_reducible refine Kd.C_alloc ?_ _) | (with_reducible refine Kd.C_drewN ?_ _) | (with_reducible refine Kd.C_drew ?_))); (case side2 => exact HC1.out); rintro e w' ⟨rfl, ⟨nd, rfl⟩⟩; (try first | exact ⟨rfl, _, World.drewN_drewN _ _ _⟩ | exact ⟨rfl, _, Eq.trans (World.drewN_drewN _ _ _) (congrArg (World.drewN _) (Nat.add_assoc _ _ _))⟩)))
   repeat (go_quiet (first | (go_at_call 37; (first | (with_reducible refine (laws_b10Long.calls _ _ l0 false _ ?side1 ?side2 A4.out).mono ?_) | ((try simp only [Go.IntWalk.i64_left]); (with_reducible refine (laws_b10Long.calls _ _ l0 false _ ?side1 ?side2 A4.out).mono ?_))); (case side1 => repeat (first | exact (Kd.C_below HR0.out HB.out) | (with_reducible refine Kd.C_alloc ?_ _) | (with_reducible refine Kd.C_drewN ?_ _) | (with_reducible refine Kd.C_drew ?_))); (case side2 => exact HC0.out); rintro e w' ⟨rfl, ⟨nd, rfl⟩⟩; (try first | exact ⟨rfl, _, World.drewN_drewN _ _ _⟩ | exact ⟨rfl, _, Eq.trans (World.drewN_drewN _ _ _) (congrArg (World.drewN _) (Nat.add_assoc _ _ _))⟩)) | (go_at_call 37; (first | (with_reducible refine (laws_b10Long.calls _ _ l1 t384 _ ?side1 ?side2 A6.out).mono ?_) | ((try simp only [Go.IntWalk.i64_left]); (with_reducible refine (laws_b10Long.calls _ _ l1 t384 _ ?side1 ?side2 A6.out).mono ?_))); (case side1 => repeat (first | exact (Kd.C_below HR1.out (by repeat (first | (with_reducible first | exact HB.out | apply below_alloc | apply pw_below_drewN | apply below_drew1) | exact HB.out))) | (with_reducible refine Kd.C_alloc ?_ _) | (with_reducible refine Kd.C_drewN ?_ _) | (with_reducible refine Kd.C_drew ?_))); (case side2 => exact HC1.out); rintro e w' ⟨rfl, ⟨nd, rfl⟩⟩; (try first | exact ⟨rfl, _, World.drewN_drewN _ _ _⟩ | exact ⟨rfl, _, Eq.trans (World.drewN_drewN _ _ _) (congrArg (World.drewN _) (Nat.add_assoc _ _ _))⟩))); try go_wp2_with (first | (go_at_call 37; (first | (with_reducible refine (laws_b10Long.calls _ _ l0 false _ ?side1 ?side2 A4.out).mono ?_) | ((try simp only [Go.IntWalk.i64_left]); (with_reducible refine (laws_b10Long.calls _ _ l0 false _ ?side1 ?side2 A4.out).mono ?_))); (case side1 => repeat (first | exact (Kd.C_below HR0.out HB.out) | (with_reducible refine Kd.C_alloc ?_ _) | (with_reducible refine Kd.C_drewN ?_ _) | (with_reducible refine Kd.C_drew ?_))); (case side2 => exact HC0.out); rintro e w' ⟨rfl, ⟨nd, rfl⟩⟩; (try first | exact ⟨rfl, _, World.drewN_drewN _ _ _⟩ | exact ⟨rfl, _, Eq.trans (World.drewN_drewN _ _ _) (congrArg (World.drewN _) (Nat.add_assoc _ _ _))⟩)) | (go_at_call 37; (first | (with_reducible refine (laws_b10Long.calls _ _ l1 t384 _ ?side1 ?side2 A6.out).mono ?_) | ((try simp only [Go.IntWalk.i64_left]); (with_reducible refine (laws_b10Long.calls _ _ l1 t384 _ ?side1 ?side2 A6.out).mono ?_))); (case side1 => repeat (first | exact (Kd.C_below HR1.out (by repeat (first | (with_reducible first | exact HB.out | apply below_alloc | apply pw_below_drewN | apply below_drew1) | exact HB.out))) | (with_reducible refine Kd.C_alloc ?_ _) | (with_reducible refine Kd.C_drewN ?_ _) | (with_reducible refine Kd.C_drew ?_))); (case side2 => exact HC1.out); rintro e w' ⟨rfl, ⟨nd, rfl⟩⟩; (try first | exact ⟨rfl, _, World.drewN_drewN _ _ _⟩ | exact ⟨rfl, _, Eq.trans (World.drewN_drewN _ _ _) (congrArg (World.drewN _) (Nat.add_assoc _ _ _))⟩))))
   go_meet
   case rel => exact ⟨_, (t384), (by first | rfl | (simp; done) | (simp [*]; done)), H', ⟨by first | omega | exact Nat.le_refl _⟩, ⟨by repeat (first | (with_reducible first | exact HB.out | apply below_alloc | apply pw_below_drewN | apply below_drew1) | exact HB.out)⟩⟩
 case rest =>
  clear HC3
  try clear c1
  try clear p2
  try clear c5
  obtain ⟨kq, x35_2, rfl, HA, HJ2, HB⟩ := hcut
  cases kq with
  | zero => exact absurd HA.out (by simp [laws_FnGangs.j0])
  | succ kj2 =>
   have H := HA.out
   clear HA
   simp only [laws_FnGangs.j0] at H
   by_cases c7 : x35_2 = true
   ·subst c7
    have H1 : (some true) = some r := by rw [if_pos rfl] at H; exact H
    clear H
    have H := H1
    clear H1
    obtain rfl := Option.some.inj H
    go_wp2
    repeat (go_quiet (fail); try go_wp2)
    go_ret
    exact ⟨by first | rfl | (simp [errW_none, errW_some] <;> rfl) | (simp [*, errW_none, errW_some] <;> rfl), by repeat (first | (with_reducible first | exact HB.out | apply below_alloc | apply pw_below_drewN | apply below_drew1) | exact HB.out)⟩
   ·as_aux_lemma =>
    replace c7 := Bool.eq_false_iff.mpr c7
    subst c7
    have H1 : ((spec_DrawGangEnds.f kj2 l0).bind fun bt385 => ((impl_GangEnds.f kj2 bt385.1 bt385.2.1 bt385.2.2).bind fun bt392 => (if bt392.2 = 0 then ((impl_GangEnds.f kj2 bt385.1 bt385.2.1 1).bind fun bt396 => ((impl_EndTimes.f kj2 bt385.1 bt385.2.1).bind fun bt400 => ((impl_LatestEnd.f kj2 bt385.1 bt385.2.1 bt385.2.2).bind fun bt404 => ((impl_DoneBy.f kj2 bt385.1 bt385.2.1 bt385.2.2 bt404.1).bind fun bt406 => (if bt396.2 = 0 then (if bt400.2 = 0 then ((laws_b10Nums.f kj2 bt396.1 bt400.1).bind fun t410 => (if t410 = true then (if bt404.2 = 0 then (if bt406.2 = 0 then (if (bt406.1.length : Int) = (bt385.1.length : Int) then (laws_FnGangs.j1 kj2 l1 bt385.1 bt385.2.2 bt392.1 bt404.1 ((bt392.1.length : Int) != (bt385.1.length : Int))) else (laws_FnGangs.j1 kj2 l1 bt385.1 bt385.2.2 bt392.1 bt404.1 true)) else (laws_FnGangs.j1 kj2 l1 bt385.1 bt385.2.2 bt392.1 bt404.1 true)) else (laws_FnGangs.j1 kj2 l1 bt385.1 bt385.2.2 bt392.1 bt404.1 true)) else (laws_FnGangs.j1 kj2 l1 bt385.1 bt385.2.2 bt392.1 bt404.1 true))) else (laws_FnGangs.j1 kj2 l1 bt385.1 bt385.2.2 bt392.1 bt404.1 true)) else (laws_FnGangs.j1 kj2 l1 bt385.1 bt385.2.2 bt392.1 bt404.1 true)))))) else (laws_FnGangs.j5 kj2 l1)))) = some r := by rw [if_neg (show ¬ (false = true) by decide)] at H; exact H
    clear H
    have H := H1
    clear H1
    replace H := Option.bind_eq_some_iff.mp H
    obtain ⟨⟨t385, t386, t387⟩, A80, H⟩ := H
    replace H : ((impl_GangEnds.f kj2 t385 t386 t387).bind fun bt392 => (if bt392.2 = 0 then ((impl_GangEnds.f kj2 t385 t386 1).bind fun bt396 => ((impl_EndTimes.f kj2 t385 t386).bind fun bt400 => ((impl_LatestEnd.f kj2 t385 t386 t387).bind fun bt404 => ((impl_DoneBy.f kj2 t385 t386 t387 bt404.1).bind fun bt406 => (if bt396.2 = 0 then (if bt400.2 = 0 then ((laws_b10Nums.f kj2 bt396.1 bt400.1).bind fun t410 => (if t410 = true then (if bt404.2 = 0 then (if bt406.2 = 0 then (if (bt406.1.length : Int) = (t385.length : Int) then (laws_FnGangs.j1 kj2 l1 t385 t387 bt392.1 bt404.1 ((bt392.1.length : Int) != (t385.length : Int))) else (laws_FnGangs.j1 kj2 l1 t385 t387 bt392.1 bt404.1 true)) else (laws_FnGangs.j1 kj2 l1 t385 t387 bt392.1 bt404.1 true)) else (laws_FnGangs.j1 kj2 l1 t385 t387 bt392.1 bt404.1 true)) else (laws_FnGangs.j1 kj2 l1 t385 t387 bt392.1 bt404.1 true))) else (laws_FnGangs.j1 kj2 l1 t385 t387 bt392.1 bt404.1 true)) else (laws_FnGangs.j1 kj2 l1 t385 t387 bt392.1 bt404.1 true)))))) else (laws_FnGangs.j5 kj2 l1))) = some r := H
    have A8 := Aside0.mk A80
    clear A80
    replace H := Option.bind_eq_some_iff.mp H
    obtain ⟨⟨t392, t393⟩, A90, H⟩ := H
    replace H : (if t393 = 0 then ((impl_GangEnds.f kj2 t385 t386 1).bind fun bt396 => ((impl_EndTimes.f kj2 t385 t386).bind fun bt400 => ((impl_LatestEnd.f kj2 t385 t386 t387).bind fun bt404 => ((impl_DoneBy.f kj2 t385 t386 t387 bt404.1).bind fun bt406 => (if bt396.2 = 0 then (if bt400.2 = 0 then ((laws_b10Nums.f kj2 bt396.1 bt400.1).bind fun t410 => (if t410 = true then (if bt404.2 = 0 then (if bt406.2 = 0 then (if (bt406.1.length : Int) = (t385.length : Int) then (laws_FnGangs.j1 kj2 l1 t385 t387 t392 bt404.1 ((t392.length : Int) != (t385.length : Int))) else (laws_FnGangs.j1 kj2 l1 t385 t387 t392 bt404.1 true)) else (laws_FnGangs.j1 kj2 l1 t385 t387 t392 bt404.1 true)) else (laws_FnGangs.j1 kj2 l1 t385 t387 t392 bt404.1 true)) else (laws_FnGangs.j1 kj2 l1 t385 t387 t392 bt404.1 true))) else (laws_FnGangs.j1 kj2 l1 t385 t387 t392 bt404.1 true)) else (laws_FnGangs.j1 kj2 l1 t385 t387 t392 bt404.1 true)))))) else (laws_FnGangs.j5 kj2 l1)) = some r := H
    have A9 := Aside0.mk A90
    clear A90
    have HC10 := Aside0.mk H
    clear H
    go_upto_if 50 with (first | (go_at_call 38; (with_reducible refine (spec_DrawGangEnds.calls kj2 _ _ l0 t385 t386 t387 _ ?side1 ?side2 A8.out).mono ?_); (case side1 => repeat (first | exact (Kd.C_below HR0.out HB.out) | (with_reducible refine Kd.C_alloc ?_ _) | (with_reducible refine Kd.C_drewN ?_ _) | (with_reducible refine Kd.C_drew ?_))); (case side2 => exact HC0.out); rintro e w11 ⟨v388, v390, rfl, ho0, ho1, hb⟩; have n0_ := Aside0.mk (Kd.R_lower ho0 (below_size (by repeat (first | (with_reducible first | exact HB.out | apply below_alloc | apply pw_below_drewN | apply below_drew1) | exact HB.out)))); have n1_ := Aside0.mk (Kd.R_lower ho1 (below_size (by repeat (first | (with_reducible first | exact HB.out | apply below_alloc | apply pw_below_drewN | apply below_drew1) | exact HB.out)))); have n2_ := Aside0.mk (below_step (by repeat (first | (with_reducible first | exact HB.out | apply below_alloc | apply pw_below_drewN | apply below_drew1) | exact HB.out)) hb); clear HB; have HO389 := n0_; have HO391 := n1_; have HB := n2_; clear n0_ n1_ n2_; (try clear hb); (try clear hb2); (try clear hk); (try clear hi); (try clear ho0); (try clear ho1); obtain ⟨Ao12, co12, eo12⟩ := Kd.R_slice HO389.out; subst eo12; obtain ⟨Ao13, co13, eo13⟩ := Kd.R_slice HO391.out; subst eo13) | (go_at_call 27; (with_reducible refine (impl_GangEnds.calls kj2 _ _ t385 _ _ t386 t387 t392 t393 _ ?side1 ?side2 ?side3 ?side4 A9.out).mono ?_); (case side1 => repeat (first | exact (Kd.R_reads' HO389.out).2.2 | (with_reducible refine Kd.C_alloc ?_ _) | (with_reducible refine Kd.C_drewN ?_ _) | (with_reducible refine Kd.C_drew ?_))); (case side2 => exact (Kd.R_reads' HO389.out).2.1); (case side3 => repeat (first | exact (Kd.R_reads' HO391.out).2.2 | (with_reducible refine Kd.C_alloc ?_ _) | (with_reducible refine Kd.C_drewN ?_ _) | (with_reducible refine Kd.C_drew ?_))); (case side4 => exact (Kd.R_reads' HO391.out).2.1); rintro e w14 ⟨v394, rfl, ho0, hb⟩; have n0_ := Aside0.mk (Kd.R_below (by (with_reducible repeat (first | apply Kd.R_alloc | apply Kd.R_drewN | apply Kd.R_drew)); exact HO389.out) hb); have n1_ := Aside0.mk (Kd.R_elder' (by (with_reducible repeat (first | apply Kd.R_alloc | apply Kd.R_drewN | apply Kd.R_drew)); exact HO391.out) (Kd.R_base ho0) hb); have n2_ := Aside0.mk (Kd.R_lower (Kd.R_new' ho0 (Kd.R_lt (by (with_reducible repeat (first | apply Kd.R_alloc | apply Kd.R_drewN | apply Kd.R_drew)); exact HO391.out))) (below_size (by repeat (first | (with_reducible first | exact HB.out | apply below_alloc | apply pw_below_drewN | apply below_drew1) | exact HB.out)))); have n3_ := Aside0.mk (below_step (by repeat (first | (with_reducible first | exact HB.out | apply below_alloc | apply pw_below_drewN | apply below_drew1) | exact HB.out)) hb); clear HO389; clear HO391; clear HB; have HO389 := n0_; have HO391 := n1_; have HO395 := n2_; have HB := n3_; clear n0_ n1_ n2_ n3_; (try clear hb); (try clear hb2); (try clear hk); (try clear hi); (try clear ho0)))
    repeat (go_quiet (first | (go_at_call 38; (first | (with_reducible refine (spec_DrawGangEnds.calls kj2 _ _ l0 t385 t386 t387 _ ?side1 ?side2 A8.out).mono ?_) | ((try simp only [Go.IntWalk.i64_left]); (with_reducible refine (spec_DrawGangEnds.calls kj2 _ _ l0 t385 t386 t387 _ ?side1 ?side2 A8.out).mono ?_))); (case side1 => repeat (first | exact (Kd.C_below HR0.out HB.out) | (with_reducible refine Kd.C_alloc ?_ _) | (with_reducible refine Kd.C_drewN ?_ _) | (with_reducible refine Kd.C_drew ?_))); (case side2 => exact HC0.out); rintro e w11 ⟨v388, v390, rfl, ho0, ho1, hb⟩; have n0_ := Aside0.mk (Kd.R_lower ho0 (below_size (by repeat (first | (with_reducible first | exact HB.out | apply below_alloc | apply pw_below_drewN | apply below_drew1) | exact HB.out)))); have n1_ := Aside0.mk (Kd.R_lower ho1 (below_size (by repeat (first | (with_reducible first | exact HB.out | apply below_alloc | apply pw_below_drewN | apply below_drew1) | exact HB.out)))); have n2_ := Aside0.mk (below_step (by repeat (first | (with_reducible first | exact HB.out | apply below_alloc | apply pw_below_drewN | apply below_drew1) | exact HB.out)) hb); clear HB; have HO389 := n0_; have HO391 := n1_; have HB := n2_; clear n0_ n1_ n2_; (try clear hb); (try clear hb2); (try clear hk); (try clear hi); (try clear ho0); (try clear ho1); obtain ⟨Ao12, co12, eo12⟩ := Kd.R_slice HO389.out; subst eo12; obtain ⟨Ao13, co13, eo13⟩ := Kd.R_slice HO391.out; subst eo13) | (go_at_call 27; (first | (with_reducible refine (impl_GangEnds.calls kj2 _ _ t385 _ _ t386 t387 t392 t393 _ ?side1 ?side2 ?side3 ?side4 A9.out).mono ?_) | ((try simp only [Go.IntWalk.i64_left]); (with_reducible refine (impl_GangEnds.calls kj2 _ _ t385 _ _ t386 t387 t392 t393 _ ?side1 ?side2 ?side3 ?side4 A9.out).mono ?_))); (case side1 => repeat (first | exact (Kd.R_reads' HO389.out).2.2 | (with_reducible refine Kd.C_alloc ?_ _) | (with_reducible refine Kd.C_drewN ?_ _) | (with_reducible refine Kd.C_drew ?_))); (case side2 => exact (Kd.R_reads' HO389.out).2.1); (case side3 => repeat (first | exact (Kd.R_reads' HO391.out).2.2 | (with_reducible refine Kd.C_alloc ?_ _) | (with_reducible refine Kd.C_drewN ?_ _) | (with_reducible refine Kd.C_drew ?_))); (case side4 => exact (Kd.R_reads' HO391.out).2.1); rintro e w14 ⟨v394, rfl, ho0, hb⟩; have n0_ := Aside0.mk (Kd.R_below (by (with_reducible repeat (first | apply Kd.R_alloc | apply Kd.R_drewN | apply Kd.R_drew)); exact HO389.out) hb); have n1_ := Aside0.mk (Kd.R_elder' (by (with_reducible repeat (first | apply Kd.R_alloc | apply Kd.R_drewN | apply Kd.R_drew)); exact HO391.out) (Kd.R_base ho0) hb); have n2_ := Aside0.mk (Kd.R_lower (Kd.R_new' ho0 (Kd.R_lt (by (with_reducible repeat (first | apply Kd.R_alloc | apply Kd.R_drewN | apply Kd.R_drew)); exact HO391.out))) (below_size (by repeat (first | (with_reducible first | exact HB.out | apply below_alloc | apply pw_below_drewN | apply below_drew1) | exact HB.out)))); have n3_ := Aside0.mk (below_step (by repeat (first | (with_reducible first | exact HB.out | apply below_alloc | apply pw_below_drewN | apply below_drew1) | exact HB.out)) hb); clear HO389; clear HO391; clear HB; have HO389 := n0_; have HO391 := n1_; have HO395 := n2_; have HB := n3_; clear n0_ n1_ n2_ n3_; (try clear hb); (try clear hb2); (try clear hk); (try clear hi); (try clear ho0))); go_upto_if 50 with (first | (go_at_call 38; (first | (with_reducible refine (spec_DrawGangEnds.calls kj2 _ _ l0 t385 t386 t387 _ ?side1 ?side2 A8.out).mono ?_) | ((try simp only [Go.IntWalk.i64_left]); (with_reducible refine (spec_DrawGangEnds.calls kj2 _ _ l0 t385 t386 t387 _ ?side1 ?side2 A8.out).mono ?_))); (case side1 => repeat (first | exact (Kd.C_below HR0.out HB.out) | (with_reducible refine Kd.C_alloc ?_ _) | (with_reducible refine Kd.C_drewN ?_ _) | (with_reducible refine Kd.C_drew ?_))); (case side2 => exact HC0.out); rintro e w11 ⟨v388, v390, rfl, ho0, ho1, hb⟩; have n0_ := Aside0.mk (Kd.R_lower ho0 (below_size (by repeat (first | (with_reducible first | exact HB.out | apply below_alloc | apply pw_below_drewN | apply below_drew1) | exact HB.out)))); have n1_ := Aside0.mk (Kd.R_lower ho1 (below_size (by repeat (first | (with_reducible first | exact HB.out | apply below_alloc | apply pw_below_drewN | apply below_drew1) | exact HB.out)))); have n2_ := Aside0.mk (below_step (by repeat (first | (with_reducible first | exact HB.out | apply below_alloc | apply pw_below_drewN | apply below_drew1) | exact HB.out)) hb); clear HB; have HO389 := n0_; have HO391 := n1_; have HB := n2_; clear n0_ n1_ n2_; (try clear hb); (try clear hb2); (try clear hk); (try clear hi); (try clear ho0); (try clear ho1); obtain ⟨Ao12, co12, eo12⟩ := Kd.R_slice HO389.out; subst eo12; obtain ⟨Ao13, co13, eo13⟩ := Kd.R_slice HO391.out; subst eo13) | (go_at_call 27; (first | (with_reducible refine (impl_GangEnds.calls kj2 _ _ t385 _ _ t386 t387 t392 t393 _ ?side1 ?side2 ?side3 ?side4 A9.out).mono ?_) | ((try simp only [Go.IntWalk.i64_left]); (with_reducible refine (impl_GangEnds.calls kj2 _ _ t385 _ _ t386 t387 t392 t393 _ ?side1 ?side2 ?side3 ?side4 A9.out).mono ?_))); (case side1 => repeat (first | exact (Kd.R_reads' HO389.out).2.2 | (with_reducible refine Kd.C_alloc ?_ _) | (with_reducible refine Kd.C_drewN ?_ _) | (with_reducible refine Kd.C_drew ?_))); (case side2 => exact (Kd.R_reads' HO389.out).2.1); (case side3 => repeat (first | exact (Kd.R_reads' HO391.out).2.2 | (with_reducible refine Kd.C_alloc ?_ _) | (with_reducible refine Kd.C_drewN ?_ _) | (with_reducible refine Kd.C_drew ?_))); (case side4 => exact (Kd.R_reads' HO391.out).2.1); rintro e w14 ⟨v394, rfl, ho0, hb⟩; have n0_ := Aside0.mk (Kd.R_below (by (with_reducible repeat (first | apply Kd.R_alloc | apply Kd.R_drewN | apply Kd.R_drew)); exact HO389.out) hb); have n1_ := Aside0.mk (Kd.R_elder' (by (with_reducible repeat (first | apply Kd.R_alloc | apply Kd.R_drewN | apply Kd.R_drew)); exact HO391.out) (Kd.R_base ho0) hb); have n2_ := Aside0.mk (Kd.R_lower (Kd.R_new' ho0 (Kd.R_lt (by (with_reducible repeat (first | apply Kd.R_alloc | apply Kd.R_drewN | apply Kd.R_drew)); exact HO391.out))) (below_size (by repeat (first | (with_reducible first | exact HB.out | apply below_alloc | apply pw_below_drewN | apply below_drew1) | exact HB.out)))); have n3_ := Aside0.mk (below_step (by repeat (first | (with_reducible first | exact HB.out | apply below_alloc | apply pw_below_drewN | apply below_drew1) | exact HB.out)) hb); clear HO389; clear HO391; clear HB; have HO389 := n0_; have HO391 := n1_; have HO395 := n2_; have HB := n3_; clear n0_ n1_ n2_ n3_; (try clear hb); (try clear hb2); (try clear hk); (try clear hi); (try clear ho0))))
    (try simp only [Act.put, List.setIfInBounds_toArray, List.set_cons_zero, List.set_cons_succ])
    go_cut [] (fun wc => ∃ (kq : Nat), Aside0 (laws_FnGangs.j5 kq l1 = some r) ∧ Aside0 (kq ≤ kj2) ∧ Aside0 (Below w.heap.size w wc))
    case first =>
     have H := HC10.out
     clear HC10
     by_cases c15 : t393 = 0
     ·as_aux_lemma =>
      rw [if_pos c15] at H
      have c15b0 : (t393 == 0) = true := beq_iff_eq.mpr c15
      have c15b1 : (t393 != 0) = false := bne_eq_false_iff_eq.mpr c15
      clear c15
      (first | rw [c15b0] | (simp only [i64_w, i32_w]; rw [c15b0]) | skip)
      replace H := Option.bind_eq_some_iff.mp H
      obtain ⟨⟨t396, t397⟩, A160, H⟩ := H
      replace H : ((impl_EndTimes.f kj2 t385 t386).bind fun bt400 => ((impl_LatestEnd.f kj2 t385 t386 t387).bind fun bt404 => ((impl_DoneBy.f kj2 t385 t386 t387 bt404.1).bind fun bt406 => (if t397 = 0 then (if bt400.2 = 0 then ((laws_b10Nums.f kj2 t396 bt400.1).bind fun t410 => (if t410 = true then (if bt404.2 = 0 then (if bt406.2 = 0 then (if (bt406.1.length : Int) = (t385.length : Int) then (laws_FnGangs.j1 kj2 l1 t385 t387 t392 bt404.1 ((t392.length : Int) != (t385.length : Int))) else (laws_FnGangs.j1 kj2 l1 t385 t387 t392 bt404.1 true)) else (laws_FnGangs.j1 kj2 l1 t385 t387 t392 bt404.1 true)) else (laws_FnGangs.j1 kj2 l1 t385 t387 t392 bt404.1 true)) else (laws_FnGangs.j1 kj2 l1 t385 t387 t392 bt404.1 true))) else (laws_FnGangs.j1 kj2 l1 t385 t387 t392 bt404.1 true)) else (laws_FnGangs.j1 kj2 l1 t385 t387 t392 bt404.1 true))))) = some r := H
      have A16 := Aside0.mk A160
      clear A160
      replace H := Option.bind_eq_some_iff.mp H
      obtain ⟨⟨t400, t401⟩, A170, H⟩ := H
      replace H : ((impl_LatestEnd.f kj2 t385 t386 t387).bind fun bt404 => ((impl_DoneBy.f kj2 t385 t386 t387 bt404.1).bind fun bt406 => (if t397 = 0 then (if t401 = 0 then ((laws_b10Nums.f kj2 t396 t400).bind fun t410 => (if t410 = true then (if bt404.2 = 0 then (if bt406.2 = 0 then (if (bt406.1.length : Int) = (t385.length : Int) then (laws_FnGangs.j1 kj2 l1 t385 t387 t392 bt404.1 ((t392.length : Int) != (t385.length : Int))) else (laws_FnGangs.j1 kj2 l1 t385 t387 t392 bt404.1 true)) else (laws_FnGangs.j1 kj2 l1 t385 t387 t392 bt404.1 true)) else (laws_FnGangs.j1 kj2 l1 t385 t387 t392 bt404.1 true)) else (laws_FnGangs.j1 kj2 l1 t385 t387 t392 bt404.1 true))) else (laws_FnGangs.j1 kj2 l1 t385 t387 t392 bt404.1 true)) else (laws_FnGangs.j1 kj2 l1 t385 t387 t392 bt404.1 true)))) = some r := H
      have A17 := Aside0.mk A170
      clear A170
      replace H := Option.bind_eq_some_iff.mp H
      obtain ⟨⟨t404, t405⟩, A180, H⟩ := H
      replace H : ((impl_DoneBy.f kj2 t385 t386 t387 t404).bind fun bt406 => (if t397 = 0 then (if t401 = 0 then ((laws_b10Nums.f kj2 t396 t400).bind fun t410 => (if t410 = true then (if t405 = 0 then (if bt406.2 = 0 then (if (bt406.1.length : Int) = (t385.length : Int) then (laws_FnGangs.j1 kj2 l1 t385 t387 t392 t404 ((t392.length : Int) != (t385.length : Int))) else (laws_FnGangs.j1 kj2 l1 t385 t387 t392 t404 true)) else (laws_FnGangs.j1 kj2 l1 t385 t387 t392 t404 true)) else (laws_FnGangs.j1 kj2 l1 t385 t387 t392 t404 true)) else (laws_FnGangs.j1 kj2 l1 t385 t387 t392 t404 true))) else (laws_FnGangs.j1 kj2 l1 t385 t387 t392 t404 true)) else (laws_FnGangs.j1 kj2 l1 t385 t387 t392 t404 true))) = some r := H
      have A18 := Aside0.mk A180
      clear A180
      replace H := Option.bind_eq_some_iff.mp H
      obtain ⟨⟨t406, t407⟩, A190, H⟩ := H
      replace H : (if t397 = 0 then (if t401 = 0 then ((laws_b10Nums.f kj2 t396 t400).bind fun t410 => (if t410 = true then (if t405 = 0 then (if t407 = 0 then (if (t406.length : Int) = (t385.length : Int) then (laws_FnGangs.j1 kj2 l1 t385 t387 t392 t404 ((t392.length : Int) != (t385.length : Int))) else (laws_FnGangs.j1 kj2 l1 t385 t387 t392 t404 true)) else (laws_FnGangs.j1 kj2 l1 t385 t387 t392 t404 true)) else (laws_FnGangs.j1 kj2 l1 t385 t387 t392 t404 true)) else (laws_FnGangs.j1 kj2 l1 t385 t387 t392 t404 true))) else (laws_FnGangs.j1 kj2 l1 t385 t387 t392 t404 true)) else (laws_FnGangs.j1 kj2 l1 t385 t387 t392 t404 true)) = some r := H
      have A19 := Aside0.mk A190
      clear A190
      have HC20 := Aside0.mk H
      clear H
      go_upto_region 10 with (first | (go_at_call 27; (with_reducible refine (impl_GangEnds.calls kj2 _ _ t385 _ _ t386 1 t396 t397 _ ?side1 ?side2 ?side3 ?side4 A16.out).mono ?_); (case side1 => repeat (first | exact (Kd.R_reads' HO389.out).2.2 | (with_reducible refine Kd.C_alloc ?_ _) | (with_reducible refine Kd.C_drewN ?_ _) | (with_reducible refine Kd.C_drew ?_))); (case side2 => exact (Kd.R_reads' HO389.out).2.1); (case side3 => repeat (first | exact (Kd.R_reads' HO391.out).2.2 | (with_reducible refine Kd.C_alloc ?_ _) | (with_reducible refine Kd.C_drewN ?_ _) | (with_reducible refine Kd.C_drew ?_))); (case side4 => exact (Kd.R_reads' HO391.out).2.1); rintro e w21 ⟨v398, rfl, ho0, hb⟩; have n0_ := Aside0.mk (Kd.R_below (by (with_reducible repeat (first | apply Kd.R_alloc | apply Kd.R_drewN | apply Kd.R_drew)); exact HO389.out) hb); have n1_ := Aside0.mk (Kd.R_elder' (by (with_reducible repeat (first | apply Kd.R_alloc | apply Kd.R_drewN | apply Kd.R_drew)); exact HO391.out) (Kd.R_base ho0) hb); have n2_ := Aside0.mk (Kd.R_elder' (by (with_reducible repeat (first | apply Kd.R_alloc | apply Kd.R_drewN | apply Kd.R_drew)); exact HO395.out) (Kd.R_base ho0) hb); have n3_ := Aside0.mk (Kd.R_lower (Kd.R_new' (Kd.R_new' ho0 (Kd.R_lt (by (with_reducible repeat (first | apply Kd.R_alloc | apply Kd.R_drewN | apply Kd.R_drew)); exact HO391.out))) (Kd.R_lt (by (with_reducible repeat (first | apply Kd.R_alloc | apply Kd.R_drewN | apply Kd.R_drew)); exact HO395.out))) (below_size (by repeat (first | (with_reducible first | exact HB.out | apply below_alloc | apply pw_below_drewN | apply below_drew1) | exact HB.out)))); have n4_ := Aside0.mk (below_step (by repeat (first | (with_reducible first | exact HB.out | apply below_alloc | apply pw_below_drewN | apply below_drew1) | exact HB.out)) hb); clear HO389; clear HO391; clear HO395; clear HB; have HO389 := n0_; have HO391 := n1_; have HO395 := n2_; have HO399 := n3_; have HB := n4_; clear n0_ n1_ n2_ n3_ n4_; (try clear hb); (try clear hb2); (try clear hk); (try clear hi); (try clear ho0)) | (go_at_call 34; (with_reducible refine (impl_EndTimes.calls kj2 _ _ t385 _ _ t386 t400 t401 _ ?side1 ?side2 ?side3 ?side4 A17.out).mono ?_); (case side1 => repeat (first | exact (Kd.R_reads' HO389.out).2.2 | (with_reducible refine Kd.C_alloc ?_ _) | (with_reducible refine Kd.C_drewN ?_ _) | (with_reducible refine Kd.C_drew ?_))); (case side2 => exact (Kd.R_reads' HO389.out).2.1); (case side3 => repeat (first | exact (Kd.R_reads' HO391.out).2.2 | (with_reducible refine Kd.C_alloc ?_ _) | (with_reducible refine Kd.C_drewN ?_ _) | (with_reducible refine Kd.C_drew ?_))); (case side4 => exact (Kd.R_reads' HO391.out).2.1); rintro e w22 ⟨v402, rfl, ho0, hb⟩; have n0_ := Aside0.mk (Kd.R_below (by (with_reducible repeat (first | apply Kd.R_alloc | apply Kd.R_drewN | apply Kd.R_drew)); exact HO389.out) hb); have n1_ := Aside0.mk (Kd.R_elder' (by (with_reducible repeat (first | apply Kd.R_alloc | apply Kd.R_drewN | apply Kd.R_drew)); exact HO391.out) (Kd.R_base ho0) hb); have n2_ := Aside0.mk (Kd.R_elder' (by (with_reducible repeat (first | apply Kd.R_alloc | apply Kd.R_drewN | apply Kd.R_drew)); exact HO395.out) (Kd.R_base ho0) hb); have n3_ := Aside0.mk (Kd.R_elder' (by (with_reducible repeat (first | apply Kd.R_alloc | apply Kd.R_drewN | apply Kd.R_drew)); exact HO399.out) (Kd.R_base ho0) hb); have n4_ := Aside0.mk (Kd.R_lower (Kd.R_new' (Kd.R_new' (Kd.R_new' ho0 (Kd.R_lt (by (with_reducible repeat (first | apply Kd.R_alloc | apply Kd.R_drewN | apply Kd.R_drew)); exact HO391.out))) (Kd.R_lt (by (with_reducible repeat (first | apply Kd.R_alloc | apply Kd.R_drewN | apply Kd.R_drew)); exact HO395.out))) (Kd.R_lt (by (with_reducible repeat (first | apply Kd.R_alloc | apply Kd.R_drewN | apply Kd.R_drew)); exact HO399.out))) (below_size (by repeat (first | (with_reducible first | exact HB.out | apply below_alloc | apply pw_below_drewN | apply below_drew1) | exact HB.out)))); have n5_ := Aside0.mk (below_step (by repeat (first | (with_reducible first | exact HB.out | apply below_alloc | apply pw_below_drewN | apply below_drew1) | exact HB.out)) hb); clear HO389; clear HO391; clear HO395; clear HO399; clear HB; have HO389 := n0_; have HO391 := n1_; have HO395 := n2_; have HO399 := n3_; have HO403 := n4_; have HB := n5_; clear n0_ n1_ n2_ n3_ n4_ n5_; (try clear hb); (try clear hb2); (try clear hk); (try clear hi); (try clear ho0)) | (go_at_call 23; (with_reducible refine (impl_LatestEnd.calls kj2 _ _ t385 _ _ t386 t387 t404 t405 _ ?side1 ?side2 ?side3 ?side4 A18.out).mono ?_); (case side1 => repeat (first | exact (Kd.R_reads' HO389.out).2.2 | (with_reducible refine Kd.C_alloc ?_ _) | (with_reducible refine Kd.C_drewN ?_ _) | (with_reducible refine Kd.C_drew ?_))); (case side2 => exact (Kd.R_reads' HO389.out).2.1); (case side3 => repeat (first | exact (Kd.R_reads' HO391.out).2.2 | (with_reducible refine Kd.C_alloc ?_ _) | (with_reducible refine Kd.C_drewN ?_ _) | (with_reducible refine Kd.C_drew ?_))); (case side4 => exact (Kd.R_reads' HO391.out).2.1); rintro e w23 ⟨rfl, hb⟩; have n0_ := Aside0.mk (Kd.R_below (by (with_reducible repeat (first | apply Kd.R_alloc | apply Kd.R_drewN | apply Kd.R_drew)); exact HO389.out) hb); have n1_ := Aside0.mk (Kd.R_below (by (with_reducible repeat (first | apply Kd.R_alloc | apply Kd.R_drewN | apply Kd.R_drew)); exact HO391.out) hb); have n2_ := Aside0.mk (Kd.R_below (by (with_reducible repeat (first | apply Kd.R_alloc | apply Kd.R_drewN | apply Kd.R_drew)); exact HO395.out) hb); have n3_ := Aside0.mk (Kd.R_below (by (with_reducible repeat (first | apply Kd.R_alloc | apply Kd.R_drewN | apply Kd.R_drew)); exact HO399.out) hb); have n4_ := Aside0.mk (Kd.R_below (by (with_reducible repeat (first | apply Kd.R_alloc | apply Kd.R_drewN | apply Kd.R_drew)); exact HO403.out) hb); have n5_ := Aside0.mk (below_step (by repeat (first | (with_reducible first | exact HB.out | apply below_alloc | apply pw_below_drewN | apply below_drew1) | exact HB.out)) hb); clear HO389; clear HO391; clear HO395; clear HO399; clear HO403; clear HB; have HO389 := n0_; have HO391 := n1_; have HO395 := n2_; have HO399 := n3_; have HO403 := n4_; have HB := n5_; clear n0_ n1_ n2_ n3_ n4_ n5_; (try clear hb); (try clear hb2); (try clear hk); (try clear hi)) | (go_at_call 36; (with_reducible refine (impl_DoneBy.calls kj2 _ _ t385 _ _ t386 t387 t404 t406 t407 _ ?side1 ?side2 ?side3 ?side4 A19.out).mono ?_); (case side1 => repeat (first | exact (Kd.R_reads' HO389.out).2.2 | (with_reducible refine Kd.C_alloc ?_ _) | (with_reducible refine Kd.C_drewN ?_ _) | (with_reducible refine Kd.C_drew ?_))); (case side2 => exact (Kd.R_reads' HO389.out).2.1); (case side3 => repeat (first | exact (Kd.R_reads' HO391.out).2.2 | (with_reducible refine Kd.C_alloc ?_ _) | (with_reducible refine Kd.C_drewN ?_ _) | (with_reducible refine Kd.C_drew ?_))); (case side4 => exact (Kd.R_reads' HO391.out).2.1); rintro e w24 ⟨v408, rfl, ho0, hb⟩; have n0_ := Aside0.mk (Kd.R_below (by (with_reducible repeat (first | apply Kd.R_alloc | apply Kd.R_drewN | apply Kd.R_drew)); exact HO389.out) hb); have n1_ := Aside0.mk (Kd.R_elder' (by (with_reducible repeat (first | apply Kd.R_alloc | apply Kd.R_drewN | apply Kd.R_drew)); exact HO391.out) (Kd.R_base ho0) hb); have n2_ := Aside0.mk (Kd.R_elder' (by (with_reducible repeat (first | apply Kd.R_alloc | apply Kd.R_drewN | apply Kd.R_drew)); exact HO395.out) (Kd.R_base ho0) hb); have n3_ := Aside0.mk (Kd.R_elder' (by (with_reducible repeat (first | apply Kd.R_alloc | apply Kd.R_drewN | apply Kd.R_drew)); exact HO399.out) (Kd.R_base ho0) hb); have n4_ := Aside0.mk (Kd.R_elder' (by (with_reducible repeat (first | apply Kd.R_alloc | apply Kd.R_drewN | apply Kd.R_drew)); exact HO403.out) (Kd.R_base ho0) hb); have n5_ := Aside0.mk (Kd.R_lower (Kd.R_new' (Kd.R_new' (Kd.R_new' (Kd.R_new' ho0 (Kd.R_lt (by (with_reducible repeat (first | apply Kd.R_alloc | apply Kd.R_drewN | apply Kd.R_drew)); exact HO391.out))) (Kd.R_lt (by (with_reducible repeat (first | apply Kd.R_alloc | apply Kd.R_drewN | apply Kd.R_drew)); exact HO395.out))) (Kd.R_lt (by (with_reducible repeat (first | apply Kd.R_alloc | apply Kd.R_drewN | apply Kd.R_drew)); exact HO399.out))) (Kd.R_lt (by (with_reducible repeat (first | apply Kd.R_alloc | apply Kd.R_drewN | apply Kd.R_drew)); exact HO403.out))) (below_size (by repeat (first | (with_reducible first | exact HB.out | apply below_alloc | apply pw_below_drewN | apply below_drew1) | exact HB.out)))); have n6_ := Aside0.mk (below_step (by repeat (first | (with_reducible first | exact HB.out | apply below_alloc | apply pw_below_drewN | apply below_drew1) | exact HB.out)) hb); clear HO389; clear HO391; clear HO395; clear HO399; clear HO403; clear HB; have HO389 := n0_; have HO391 := n1_; have HO395 := n2_; have HO399 := n3_; have HO403 := n4_; have HO409 := n5_; have HB := n6_; clear n0_ n1_ n2_ n3_ n4_ n5_ n6_; (try clear hb); (try clear hb2); (try clear hk); (try clear hi); (try clear ho0)))
      repeat (go_quiet (first | (go_at_call 27; (first | (with_reducible refine (impl_GangEnds.calls kj2 _ _ t385 _ _ t386 1 t396 t397 _ ?side1 ?side2 ?side3 ?side4 A16.out).mono ?_) | ((try simp only [Go.IntWalk.i64_left]); (with_reducible refine (impl_GangEnds.calls kj2 _ _ t385 _ _ t386 1 t396 t397 _ ?side1 ?side2 ?side3 ?side4 A16.out).mono ?_))); (case side1 => repeat (first | exact (Kd.R_reads' HO389.out).2.2 | (with_reducible refine Kd.C_alloc ?_ _) | (with_reducible refine Kd.C_drewN ?_ _) | (with_reducible refine Kd.C_drew ?_))); (case side2 => exact (Kd.R_reads' HO389.out).2.1); (case side3 => repeat (first | exact (Kd.R_reads' HO391.out).2.2 | (with_reducible refine Kd.C_alloc ?_ _) | (with_reducible refine Kd.C_drewN ?_ _) | (with_reducible refine Kd.C_drew ?_))); (case side4 => exact (Kd.R_reads' HO391.out).2.1); rintro e w21 ⟨v398, rfl, ho0, hb⟩; have n0_ := Aside0.mk (Kd.R_below (by (with_reducible repeat (first | apply Kd.R_alloc | apply Kd.R_drewN | apply Kd.R_drew)); exact HO389.out) hb); have n1_ := Aside0.mk (Kd.R_elder' (by (with_reducible repeat (first | apply Kd.R_alloc | apply Kd.R_drewN | apply Kd.R_drew)); exact HO391.out) (Kd.R_base ho0) hb); have n2_ := Aside0.mk (Kd.R_elder' (by (with_reducible repeat (first | apply Kd.R_alloc | apply Kd.R_drewN | apply Kd.R_drew)); exact HO395.out) (Kd.R_base ho0) hb); have n3_ := Aside0.mk (Kd.R_lower (Kd.R_new' (Kd.R_new' ho0 (Kd.R_lt (by (with_reducible repeat (first | apply Kd.R_alloc | apply Kd.R_drewN | apply Kd.R_drew)); exact HO391.out))) (Kd.R_lt (by (with_reducible repeat (first | apply Kd.R_alloc | apply Kd.R_drewN | apply Kd.R_drew)); exact HO395.out))) (below_size (by repeat (first | (with_reducible first | exact HB.out | apply below_alloc | apply pw_below_drewN | apply below_drew1) | exact HB.out)))); have n4_ := Aside0.mk (below_step (by repeat (first | (with_reducible first | exact HB.out | apply below_alloc | apply pw_below_drewN | apply below_drew1) | exact HB.out)) hb); clear HO389; clear HO391; clear HO395; clear HB; have HO389 := n0_; have HO391 := n1_; have HO395 := n2_; have HO399 := n3_; have HB := n4_; clear n0_ n1_ n2_ n3_ n4_; (try clear hb); (try clear hb2); (try clear hk); (try clear hi); (try clear ho0)) | (go_at_call 34; (first | (with_reducible refine (impl_EndTimes.calls kj2 _ _ t385 _ _ t386 t400 t401 _ ?side1 ?side2 ?side3 ?side4 A17.out).mono ?_) | ((try simp only [Go.IntWalk.i64_left]); (with_reducible refine (impl_EndTimes.calls kj2 _ _ t385 _ _ t386 t400 t401 _ ?side1 ?side2 ?side3 ?side4 A17.out).mono ?_))); (case side1 => repeat (first | exact (Kd.R_reads' HO389.out).2.2 | (with_reducible refine Kd.C_alloc ?_ _) | (with_reducible refine Kd.C_drewN ?_ _) | (with_reducible refine Kd.C_drew ?_))); (case side2 => exact (Kd.R_reads' HO389.out).2.1); (case side3 => repeat (first | exact (Kd.R_reads' HO391.out).2.2 | (with_reducible refine Kd.C_alloc ?_ _) | (with_reducible refine Kd.C_drewN ?_ _) | (with_reducible refine Kd.C_drew ?_))); (case side4 => exact (Kd.R_reads' HO391.out).2.1); rintro e w22 ⟨v402, rfl, ho0, hb⟩; have n0_ := Aside0.mk (Kd.R_below (by (with_reducible repeat (first | apply Kd.R_alloc | apply Kd.R_drewN | apply Kd.R_drew)); exact HO389.out) hb); have n1_ := Aside0.mk (Kd.R_elder' (by (with_reducible repeat (first | apply Kd.R_alloc | apply Kd.R_drewN | apply Kd.R_drew)); exact HO391.out) (Kd.R_base ho0) hb); have n2_ := Aside0.mk (Kd.R_elder' (by (with_reducible repeat (first | apply Kd.R_alloc | apply Kd.R_drewN | apply Kd.R_drew)); exact HO395.out) (Kd.R_base ho0) hb); have n3_ := Aside0.mk (Kd.R_elder' (by (with_reducible repeat (first | apply Kd.R_alloc | apply Kd.R_drewN | apply Kd.R_drew)); exact HO399.out) (Kd.R_base ho0) hb); have n4_ := Aside0.mk (Kd.R_lower (Kd.R_new' (Kd.R_new' (Kd.R_new' ho0 (Kd.R_lt (by (with_reducible repeat (first | apply Kd.R_alloc | apply Kd.R_drewN | apply Kd.R_drew)); exact HO391.out))) (Kd.R_lt (by (with_reducible repeat (first | apply Kd.R_alloc | apply Kd.R_drewN | apply Kd.R_drew)); exact HO395.out))) (Kd.R_lt (by (with_reducible repeat (first | apply Kd.R_alloc | apply Kd.R_drewN | apply Kd.R_drew)); exact HO399.out))) (below_size (by repeat (first | (with_reducible first | exact HB.out | apply below_alloc | apply pw_below_drewN | apply below_drew1) | exact HB.out)))); have n5_ := Aside0.mk (below_step (by repeat (first | (with_reducible first | exact HB.out | apply below_alloc | apply pw_below_drewN | apply below_drew1) | exact HB.out)) hb); clear HO389; clear HO391; clear HO395; clear HO399; clear HB; have HO389 := n0_; have HO391 := n1_; have HO395 := n2_; have HO399 := n3_; have HO403 := n4_; have HB := n5_; clear n0_ n1_ n2_ n3_ n4_ n5_; (try clear hb); (try clear hb2); (try clear hk); (try clear hi); (try clear ho0)) | (go_at_call 23; (first | (with_reducible refine (impl_LatestEnd.calls kj2 _ _ t385 _ _ t386 t387 t404 t405 _ ?side1 ?side2 ?side3 ?side4 A18.out).mono ?_) | ((try simp only [Go.IntWalk.i64_left]); (with_reducible refine (impl_LatestEnd.calls kj2 _ _ t385 _ _ t386 t387 t404 t405 _ ?side1 ?side2 ?side3 ?side4 A18.out).mono ?_))); (case side1 => repeat (first | exact (Kd.R_reads' HO389.out).2.2 | (with_reducible refine Kd.C_alloc ?_ _) | (with_reducible refine Kd.C_drewN ?_ _) | (with_reducible refine Kd.C_drew ?_))); (case side2 => exact (Kd.R_reads' HO389.out).2.1); (case side3 => repeat (first | exact (Kd.R_reads' HO391.out).2.2 | (with_reducible refine Kd.C_alloc ?_ _) | (with_reducible refine Kd.C_drewN ?_ _) | (with_reducible refine Kd.C_drew ?_))); (case side4 => exact (Kd.R_reads' HO391.out).2.1); rintro e w23 ⟨rfl, hb⟩; have n0_ := Aside0.mk (Kd.R_below (by (with_reducible repeat (first | apply Kd.R_alloc | apply Kd.R_drewN | apply Kd.R_drew)); exact HO389.out) hb); have n1_ := Aside0.mk (Kd.R_below (by (with_reducible repeat (first | apply Kd.R_alloc | apply Kd.R_drewN | apply Kd.R_drew)); exact HO391.out) hb); have n2_ := Aside0.mk (Kd.R_below (by (with_reducible repeat (first | apply Kd.R_alloc | apply Kd.R_drewN | apply Kd.R_drew)); exact HO395.out) hb); have n3_ := Aside0.mk (Kd.R_below (by (with_reducible repeat (first | apply Kd.R_alloc | apply Kd.R_drewN | apply Kd.R_drew)); exact HO399.out) hb); have n4_ := Aside0.mk (Kd.R_below (by (with_reducible repeat (first | apply Kd.R_alloc | apply Kd.R_drewN | apply Kd.R_drew)); exact HO403.out) hb); have n5_ := Aside0.mk (below_step (by repeat (first | (with_reducible first | exact HB.out | apply below_alloc | apply pw_below_drewN | apply below_drew1) | exact HB.out)) hb); clear HO389; clear HO391; clear HO395; clear HO399; clear HO403; clear HB; have HO389 := n0_; have HO391 := n1_; have HO395 := n2_; have HO399 := n3_; have HO403 := n4_; have HB := n5_; clear n0_ n1_ n2_ n3_ n4_ n5_; (try clear hb); (try clear hb2); (try clear hk); (try clear hi)) | (go_at_call 36; (first | (with_reducible refine (impl_DoneBy.calls kj2 _ _ t385 _ _ t386 t387 t404 t406 t407 _ ?side1 ?side2 ?side3 ?side4 A19.out).mono ?_) | ((try simp only [Go.IntWalk.i64_left]); (with_reducible refine (impl_DoneBy.calls kj2 _ _ t385 _ _ t386 t387 t404 t406 t407 _ ?side1 ?side2 ?side3 ?side4 A19.out).mono ?_))); (case side1 => repeat (first | exact (Kd.R_reads' HO389.out).2.2 | (with_reducible refine Kd.C_alloc ?_ _) | (with_reducible refine Kd.C_drewN ?_ _) | (with_reducible refine Kd.C_drew ?_))); (case side2 => exact (Kd.R_reads' HO389.out).2.1); (case side3 => repeat (first | exact (Kd.R_reads' HO391.out).2.2 | (with_reducible refine Kd.C_alloc ?_ _) | (with_reducible refine Kd.C_drewN ?_ _) | (with_reducible refine Kd.C_drew ?_))); (case side4 => exact (Kd.R_reads' HO391.out).2.1); rintro e w24 ⟨v408, rfl, ho0, hb⟩; have n0_ := Aside0.mk (Kd.R_below (by (with_reducible repeat (first | apply Kd.R_alloc | apply Kd.R_drewN | apply Kd.R_drew)); exact HO389.out) hb); have n1_ := Aside0.mk (Kd.R_elder' (by (with_reducible repeat (first | apply Kd.R_alloc | apply Kd.R_drewN | apply Kd.R_drew)); exact HO391.out) (Kd.R_base ho0) hb); have n2_ := Aside0.mk (Kd.R_elder' (by (with_reducible repeat (first | apply Kd.R_alloc | apply Kd.R_drewN | apply Kd.R_drew)); exact HO395.out) (Kd.R_base ho0) hb); have n3_ := Aside0.mk (Kd.R_elder' (by (with_reducible repeat (first | apply Kd.R_alloc | apply Kd.R_drewN | apply Kd.R_drew)); exact HO399.out) (Kd.R_base ho0) hb); have n4_ := Aside0.mk (Kd.R_elder' (by (with_reducible repeat (first | apply Kd.R_alloc | apply Kd.R_drewN | apply Kd.R_drew)); exact HO403.out) (Kd.R_base ho0) hb); have n5_ := Aside0.mk (Kd.R_lower (Kd.R_new' (Kd.R_new' (Kd.R_new' (Kd.R_new' ho0 (Kd.R_lt (by (with_reducible repeat (first | apply Kd.R_alloc | apply Kd.R_drewN | apply Kd.R_drew)); exact HO391.out))) (Kd.R_lt (by (with_reducible repeat (first | apply Kd.R_alloc | apply Kd.R_drewN | apply Kd.R_drew)); exact HO395.out))) (Kd.R_lt (by (with_reducible repeat (first | apply Kd.R_alloc | apply Kd.R_drewN | apply Kd.R_drew)); exact HO399.out))) (Kd.R_lt (by (with_reducible repeat (first | apply Kd.R_alloc | apply Kd.R_drewN | apply Kd.R_drew)); exact HO403.out))) (below_size (by repeat (first | (with_reducible first | exact HB.out | apply below_alloc | apply pw_below_drewN | apply below_drew1) | exact HB.out)))); have n6_ := Aside0.mk (below_step (by repeat (first | (with_reducible first | exact HB.out | apply below_alloc | apply pw_below_drewN | apply below_drew1) | exact HB.out)) hb); clear HO389; clear HO391; clear HO395; clear HO399; clear HO403; clear HB; have HO389 := n0_; have HO391 := n1_; have HO395 := n2_; have HO399 := n3_; have HO403 := n4_; have HO409 := n5_; have HB := n6_; clear n0_ n1_ n2_ n3_ n4_ n5_ n6_; (try clear hb); (try clear hb2); (try clear hk); (try clear hi); (try clear ho0))); go_upto_region 10 with (first | (go_at_call 27; (first | (with_reducible refine (impl_GangEnds.calls kj2 _ _ t385 _ _ t386 1 t396 t397 _ ?side1 ?side2 ?side3 ?side4 A16.out).mono ?_) | ((try simp only [Go.IntWalk.i64_left]); (with_reducible refine (impl_GangEnds.calls kj2 _ _ t385 _ _ t386 1 t396 t397 _ ?side1 ?side2 ?side3 ?side4 A16.out).mono ?_))); (case side1 => repeat (first | exact (Kd.R_reads' HO389.out).2.2 | (with_reducible refine Kd.C_alloc ?_ _) | (with_reducible refine Kd.C_drewN ?_ _) | (with_reducible refine Kd.C_drew ?_))); (case side2 => exact (Kd.R_reads' HO389.out).2.1); (case side3 => repeat (first | exact (Kd.R_reads' HO391.out).2.2 | (with_reducible refine Kd.C_alloc ?_ _) | (with_reducible refine Kd.C_drewN ?_ _) | (with_reducible refine Kd.C_drew ?_))); (case side4 => exact (Kd.R_reads' HO391.out).2.1); rintro e w21 ⟨v398, rfl, ho0, hb⟩; have n0_ := Aside0.mk (Kd.R_below (by (with_reducible repeat (first | apply Kd.R_alloc | apply Kd.R_drewN | apply Kd.R_drew)); exact HO389.out) hb); have n1_ := Aside0.mk (Kd.R_elder' (by (with_reducible repeat (first | apply Kd.R_alloc | apply Kd.R_drewN | apply Kd.R_drew)); exact HO391.out) (Kd.R_base ho0) hb); have n2_ := Aside0.mk (Kd.R_elder' (by (with_reducible repeat (first | apply Kd.R_alloc | apply Kd.R_drewN | apply Kd.R_drew)); exact HO395.out) (Kd.R_base ho0) hb); have n3_ := Aside0.mk (Kd.R_lower (Kd.R_new' (Kd.R_new' ho0 (Kd.R_lt (by (with_reducible repeat (first | apply Kd.R_alloc | apply Kd.R_drewN | apply Kd.R_drew)); exact HO391.out))) (Kd.R_lt (by (with_reducible repeat (first | apply Kd.R_alloc | apply Kd.R_drewN | apply Kd.R_drew)); exact HO395.out))) (below_size (by repeat (first | (with_reducible first | exact HB.out | apply below_alloc | apply pw_below_drewN | apply below_drew1) | exact HB.out)))); have n4_ := Aside0.mk (below_step (by repeat (first | (with_reducible first | exact HB.out | apply below_alloc | apply pw_below_drewN | apply below_drew1) | exact HB.out)) hb); clear HO389; clear HO391; clear HO395; clear HB; have HO389 := n0_; have HO391 := n1_; have HO395 := n2_; have HO399 := n3_; have HB := n4_; clear n0_ n1_ n2_ n3_ n4_; (try clear hb); (try clear hb2); (try clear hk); (try clear hi); (try clear ho0)) | (go_at_call 34; (first | (with_reducible refine (impl_EndTimes.calls kj2 _ _ t385 _ _ t386 t400 t401 _ ?side1 ?side2 ?side3 ?side4 A17.out).mono ?_) | ((try simp only [Go.IntWalk.i64_left]); (with_reducible refine (impl_EndTimes.calls kj2 _ _ t385 _ _ t386 t400 t401 _ ?side1 ?side2 ?side3 ?side4 A17.out).mono ?_))); (case side1 => repeat (first | exact (Kd.R_reads' HO389.out).2.2 | (with_reducible refine Kd.C_alloc ?_ _) | (with_reducible refine Kd.C_drewN ?_ _) | (with_reducible refine Kd.C_drew ?_))); (case side2 => exact (Kd.R_reads' HO389.out).2.1); (case side3 => repeat (first | exact (Kd.R_reads' HO391.out).2.2 | (with_reducible refine Kd.C_alloc ?_ _) | (with_reducible refine Kd.C_drewN ?_ _) | (with_reducible refine Kd.C_drew ?_))); (case side4 => exact (Kd.R_reads' HO391.out).2.1); rintro e w22 ⟨v402, rfl, ho0, hb⟩; have n0_ := Aside0.mk (Kd.R_below (by (with_reducible repeat (first | apply Kd.R_alloc | apply Kd.R_drewN | apply Kd.R_drew)); exact HO389.out) hb); have n1_ := Aside0.mk (Kd.R_elder' (by (with_reducible repeat (first | apply Kd.R_alloc | apply Kd.R_drewN | apply Kd.R_drew)); exact HO391.out) (Kd.R_base ho0) hb); have n2_ := Aside0.mk (Kd.R_elder' (by (with_reducible repeat (first | apply Kd.R_alloc | apply Kd.R_drewN | apply Kd.R_drew)); exact HO395.out) (Kd.R_base ho0) hb); have n3_ := Aside0.mk (Kd.R_elder' (by (with_reducible repeat (first | apply Kd.R_alloc | apply Kd.R_drewN | apply Kd.R_drew)); exact HO399.out) (Kd.R_base ho0) hb); have n4_ := Aside0.mk (Kd.R_lower (Kd.R_new' (Kd.R_new' (Kd.R_new' ho0 (Kd.R_lt (by (with_reducible repeat (first | apply Kd.R_alloc | apply Kd.R_drewN | apply Kd.R_drew)); exact HO391.out))) (Kd.R_lt (by (with_reducible repeat (first | apply Kd.R_alloc | apply Kd.R_drewN | apply Kd.R_drew)); exact HO395.out))) (Kd.R_lt (by (with_reducible repeat (first | apply Kd.R_alloc | apply Kd.R_drewN | apply Kd.R_drew)); exact HO399.out))) (below_size (by repeat (first | (with_reducible first | exact HB.out | apply below_alloc | apply pw_below_drewN | apply below_drew1) | exact HB.out)))); have n5_ := Aside0.mk (below_step (by repeat (first | (with_reducible first | exact HB.out | apply below_alloc | apply pw_below_drewN | apply below_drew1) | exact HB.out)) hb); clear HO389; clear HO391; clear HO395; clear HO399; clear HB; have HO389 := n0_; have HO391 := n1_; have HO395 := n2_; have HO399 := n3_; have HO403 := n4_; have HB := n5_; clear n0_ n1_ n2_ n3_ n4_ n5_; (try clear hb); (try clear hb2); (try clear hk); (try clear hi); (try clear ho0)) | (go_at_call 23; (first | (with_reducible refine (impl_LatestEnd.calls kj2 _ _ t385 _ _ t386 t387 t404 t405 _ ?side1 ?side2 ?side3 ?side4 A18.out).mono ?_) | ((try simp only [Go.IntWalk.i64_left]); (with_reducible refine (impl_LatestEnd.calls kj2 _ _ t385 _ _ t386 t387 t404 t405 _ ?side1 ?side2 ?side3 ?side4 A18.out).mono ?_))); (case side1 => repeat (first | exact (Kd.R_reads' HO389.out).2.2 | (with_reducible refine Kd.C_alloc ?_ _) | (with_reducible refine Kd.C_drewN ?_ _) | (with_reducible refine Kd.C_drew ?_))); (case side2 => exact (Kd.R_reads' HO389.out).2.1); (case side3 => repeat (first | exact (Kd.R_reads' HO391.out).2.2 | (with_reducible refine Kd.C_alloc ?_ _) | (with_reducible refine Kd.C_drewN ?_ _) | (with_reducible refine Kd.C_drew ?_))); (case side4 => exact (Kd.R_reads' HO391.out).2.1); rintro e w23 ⟨rfl, hb⟩; have n0_ := Aside0.mk (Kd.R_below (by (with_reducible repeat (first | apply Kd.R_alloc | apply Kd.R_drewN | apply Kd.R_drew)); exact HO389.out) hb); have n1_ := Aside0.mk (Kd.R_below (by (with_reducible repeat (first | apply Kd.R_alloc | apply Kd.R_drewN | apply Kd.R_drew)); exact HO391.out) hb); have n2_ := Aside0.mk (Kd.R_below (by (with_reducible repeat (first | apply Kd.R_alloc | apply Kd.R_drewN | apply Kd.R_drew)); exact HO395.out) hb); have n3_ := Aside0.mk (Kd.R_below (by (with_reducible repeat (first | apply Kd.R_alloc | apply Kd.R_drewN | apply Kd.R_drew)); exact HO399.out) hb); have n4_ := Aside0.mk (Kd.R_below (by (with_reducible repeat (first | apply Kd.R_alloc | apply Kd.R_drewN | apply Kd.R_drew)); exact HO403.out) hb); have n5_ := Aside0.mk (below_step (by repeat (first | (with_reducible first | exact HB.out | apply below_alloc | apply pw_below_drewN | apply below_drew1) | exact HB.out)) hb); clear HO389; clear HO391; clear HO395; clear HO399; clear HO403; clear HB; have HO389 := n0_; have HO391 := n1_; have HO395 := n2_; have HO399 := n3_; have HO403 := n4_; have HB := n5_; clear n0_ n1_ n2_ n3_ n4_ n5_; (try clear hb); (try clear hb2); (try clear hk); (try clear hi)) | (go_at_call 36; (first | (with_reducible refine (impl_DoneBy.calls kj2 _ _ t385 _ _ t386 t387 t404 t406 t407 _ ?side1 ?side2 ?side3 ?side4 A19.out).mono ?_) | ((try simp only [Go.IntWalk.i64_left]); (with_reducible refine (impl_DoneBy.calls kj2 _ _ t385 _ _ t386 t387 t404 t406 t407 _ ?side1 ?side2 ?side3 ?side4 A19.out).mono ?_))); (case side1 => repeat (first | exact (Kd.R_reads' HO389.out).2.2 | (with_reducible refine Kd.C_alloc ?_ _) | (with_reducible refine Kd.C_drewN ?_ _) | (with_reducible refine Kd.C_drew ?_))); (case side2 => exact (Kd.R_reads' HO389.out).2.1); (case side3 => repeat (first | exact (Kd.R_reads' HO391.out).2.2 | (with_reducible refine Kd.C_alloc ?_ _) | (with_reducible refine Kd.C_drewN ?_ _) | (with_reducible refine Kd.C_drew ?_))); (case side4 => exact (Kd.R_reads' HO391.out).2.1); rintro e w24 ⟨v408, rfl, ho0, hb⟩; have n0_ := Aside0.mk (Kd.R_below (by (with_reducible repeat (first | apply Kd.R_alloc | apply Kd.R_drewN | apply Kd.R_drew)); exact HO389.out) hb); have n1_ := Aside0.mk (Kd.R_elder' (by (with_reducible repeat (first | apply Kd.R_alloc | apply Kd.R_drewN | apply Kd.R_drew)); exact HO391.out) (Kd.R_base ho0) hb); have n2_ := Aside0.mk (Kd.R_elder' (by (with_reducible repeat (first | apply Kd.R_alloc | apply Kd.R_drewN | apply Kd.R_drew)); exact HO395.out) (Kd.R_base ho0) hb); have n3_ := Aside0.mk (Kd.R_elder' (by (with_reducible repeat (first | apply Kd.R_alloc | apply Kd.R_drewN | apply Kd.R_drew)); exact HO399.out) (Kd.R_base ho0) hb); have n4_ := Aside0.mk (Kd.R_elder' (by (with_reducible repeat (first | apply Kd.R_alloc | apply Kd.R_drewN | apply Kd.R_drew)); exact HO403.out) (Kd.R_base ho0) hb); have n5_ := Aside0.mk (Kd.R_lower (Kd.R_new' (Kd.R_new' (Kd.R_new' (Kd.R_new' ho0 (Kd.R_lt (by (with_reducible repeat (first | apply Kd.R_alloc | apply Kd.R_drewN | apply Kd.R_drew)); exact HO391.out))) (Kd.R_lt (by (with_reducible repeat (first | apply Kd.R_alloc | apply Kd.R_drewN | apply Kd.R_drew)); exact HO395.out))) (Kd.R_lt (by (with_reducible repeat (first | apply Kd.R_alloc | apply Kd.R_drewN | apply Kd.R_drew)); exact HO399.out))) (Kd.R_lt (by (with_reducible repeat (first | apply Kd.R_alloc | apply Kd.R_drewN | apply Kd.R_drew)); exact HO403.out))) (below_size (by repeat (first | (with_reducible first | exact HB.out | apply below_alloc | apply pw_below_drewN | apply below_drew1) | exact HB.out)))); have n6_ := Aside0.mk (below_step (by repeat (first | (with_reducible first | exact HB.out | apply below_alloc | apply pw_below_drewN | apply below_drew1) | exact HB.out)) hb); clear HO389; clear HO391; clear HO395; clear HO399; clear HO403; clear HB; have HO389 := n0_; have HO391 := n1_; have HO395 := n2_; have HO399 := n3_; have HO403 := n4_; have HO409 := n5_; have HB := n6_; clear n0_ n1_ n2_ n3_ n4_ n5_ n6_; (try clear hb); (try clear hb2); (try clear hk); (try clear hi); (try clear ho0))))
      (try simp only [Act.put, List.setIfInBounds_toArray, List.set_cons_zero, List.set_cons_succ])
      go_cut [111] (fun v111 wc => ∃ (kq : Nat) (x111_19 : Bool), v111 = .bool x111_19 ∧ Aside0 (laws_FnGangs.j1 kq l1 t385 t387 t392 t404 x111_19 = some r) ∧ Aside0 (kq ≤ kj2) ∧ Aside0 (Kd.R k47 47 wc w.heap.size (fun _ => True) (.slice Ao12 t385.length co12) t385) ∧ Aside0 (Kd.R (Kd.int .i64) 2 wc w.heap.size (fun _ => True) v394 t392) ∧ Aside0 (Below w.heap.size w wc))
      case first =>
       have H := HC20.out
       clear HC20
       by_cases c25 : t397 = 0
       ·as_aux_lemma =>
        rw [if_pos c25] at H
        have c25b0 : (t397 == 0) = true := beq_iff_eq.mpr c25
        have c25b1 : (t397 != 0) = false := bne_eq_false_iff_eq.mpr c25
        clear c25
        (first | rw [c25b0] | (simp only [i64_w, i32_w]; rw [c25b0]) | skip)
        by_cases c26 : t401 = 0
        ·as_aux_lemma =>
         rw [if_pos c26] at H
         have c26b0 : (t401 == 0) = true := beq_iff_eq.mpr c26
         have c26b1 : (t401 != 0) = false := bne_eq_false_iff_eq.mpr c26
         clear c26
         replace H := Option.bind_eq_some_iff.mp H
         obtain ⟨t410, A270, H⟩ := H
         replace H : (if t410 = true then (if t405 = 0 then (if t407 = 0 then (if (t406.length : Int) = (t385.length : Int) then (laws_FnGangs.j1 kj2 l1 t385 t387 t392 t404 ((t392.length : Int) != (t385.length : Int))) else (laws_FnGangs.j1 kj2 l1 t385 t387 t392 t404 true)) else (laws_FnGangs.j1 kj2 l1 t385 t387 t392 t404 true)) else (laws_FnGangs.j1 kj2 l1 t385 t387 t392 t404 true)) else (laws_FnGangs.j1 kj2 l1 t385 t387 t392 t404 true)) = some r := H
         have A27 := Aside0.mk A270
         clear A270
         by_cases c28 : t410 = true
         ·as_aux_lemma =>
          subst c28
          have H1 : (if t405 = 0 then (if t407 = 0 then (if (t406.length : Int) = (t385.length : Int) then (laws_FnGangs.j1 kj2 l1 t385 t387 t392 t404 ((t392.length : Int) != (t385.length : Int))) else (laws_FnGangs.j1 kj2 l1 t385 t387 t392 t404 true)) else (laws_FnGangs.j1 kj2 l1 t385 t387 t392 t404 true)) else (laws_FnGangs.j1 kj2 l1 t385 t387 t392 t404 true)) = some r := by rw [if_pos rfl] at H; exact H
          clear H
          have H := H1
          clear H1
          by_cases c29 : t405 = 0
          ·rw [if_pos c29] at H
           have c29b0 : (t405 == 0) = true := beq_iff_eq.mpr c29
           have c29b1 : (t405 != 0) = false := bne_eq_false_iff_eq.mpr c29
           clear c29
           by_cases c30 : t407 = 0
           ·rw [if_pos c30] at H
            have c30b0 : (t407 == 0) = true := beq_iff_eq.mpr c30
            have c30b1 : (t407 != 0) = false := bne_eq_false_iff_eq.mpr c30
            clear c30
            by_cases c31 : (t406.length : Int) = (t385.length : Int)
            ·rw [if_pos c31] at H
             have c31b0 : ((t406.length : Int) == (t385.length : Int)) = true := beq_iff_eq.mpr c31
             have c31b1 : ((t406.length : Int) != (t385.length : Int)) = false := bne_eq_false_iff_eq.mpr c31
             have c31b2 : (t406.length == t385.length) = true := by first | simpa using c31 | (simp at c31 ⊢; omega)
             clear c31
             have H' := Aside0.mk H
             clear H
             obtain ⟨Ao32, co32, eo32⟩ := Kd.R_slice HO399.out
             subst eo32
             obtain ⟨Ao33, co33, eo33⟩ := Kd.R_slice HO403.out
             subst eo33
             obtain ⟨Ao34, co34, eo34⟩ := Kd.R_slice HO409.out
             subst eo34
             obtain ⟨Ao35, co35, eo35⟩ := Kd.R_slice HO395.out
             subst eo35
             go_wp2_with (first | (go_at_call 39; (first | (with_reducible refine (laws_b10Nums.calls kj2 _ _ t396 _ _ t400 true _ ?side1 ?side2 ?side3 ?side4 A27.out).mono ?_) | ((try simp only [Go.IntWalk.i64_left]); (with_reducible refine (laws_b10Nums.calls kj2 _ _ t396 _ _ t400 true _ ?side1 ?side2 ?side3 ?side4 A27.out).mono ?_))); (case side1 => repeat (first | exact (Kd.R_reads' HO399.out).2.2 | (with_reducible refine Kd.C_alloc ?_ _) | (with_reducible refine Kd.C_drewN ?_ _) | (with_reducible refine Kd.C_drew ?_))); (case side2 => exact (Kd.R_reads' HO399.out).2.1); (case side3 => repeat (first | exact (Kd.R_reads' HO403.out).2.2 | (with_reducible refine Kd.C_alloc ?_ _) | (with_reducible refine Kd.C_drewN ?_ _) | (with_reducible refine Kd.C_drew ?_))); (case side4 => exact (Kd.R_reads' HO403.out).2.1); rintro e w' ⟨rfl, ⟨nd, rfl⟩⟩; (try first | exact ⟨rfl, _, World.drewN_drewN _ _ _⟩ | exact ⟨rfl, _, Eq.trans (World.drewN_drewN _ _ _) (congrArg (World.drewN _) (Nat.add_assoc _ _ _))⟩)))
             repeat (go_quiet (first | (go_at_call 39; (first | (with_reducible refine (laws_b10Nums.calls kj2 _ _ t396 _ _ t400 true _ ?side1 ?side2 ?side3 ?side4 A27.out).mono ?_) | ((try simp only [Go.IntWalk.i64_left]); (with_reducible refine (laws_b10Nums.calls kj2 _ _ t396 _ _ t400 true _ ?side1 ?side2 ?side3 ?side4 A27.out).mono ?_))); (case side1 => repeat (first | exact (Kd.R_reads' HO399.out).2.2 | (with_reducible refine Kd.C_alloc ?_ _) | (with_reducible refine Kd.C_drewN ?_ _) | (with_reducible refine Kd.C_drew ?_))); (case side2 => exact (Kd.R_reads' HO399.out).2.1); (case side3 => repeat (first | exact (Kd.R_reads' HO403.out).2.2 | (with_reducible refine Kd.C_alloc ?_ _) | (with_reducible refine Kd.C_drewN ?_ _) | (with_reducible refine Kd.C_drew ?_))); (case side4 => exact (Kd.R_reads' HO403.out).2.1); rintro e w' ⟨rfl, ⟨nd, rfl⟩⟩; (try first | exact ⟨rfl, _, World.drewN_drewN _ _ _⟩ | exact ⟨rfl, _, Eq.trans (World.drewN_drewN _ _ _) (congrArg (World.drewN _) (Nat.add_assoc _ _ _))⟩))); try go_wp2_with (first | (go_at_call 39; (first | (with_reducible refine (laws_b10Nums.calls kj2 _ _ t396 _ _ t400 true _ ?side1 ?side2 ?side3 ?side4 A27.out).mono ?_) | ((try simp only [Go.IntWalk.i64_left]); (with_reducible refine (laws_b10Nums.calls kj2 _ _ t396 _ _ t400 true _ ?side1 ?side2 ?side3 ?side4 A27.out).mono ?_))); (case side1 => repeat (first | exact (Kd.R_reads' HO399.out).2.2 | (with_reducible refine Kd.C_alloc ?_ _) | (with_reducible refine Kd.C_drewN ?_ _) | (with_reducible refine Kd.C_drew ?_))); (case side2 => exact (Kd.R_reads' HO399.out).2.1); (case side3 => repeat (first | exact (Kd.R_reads' HO403.out).2.2 | (with_reducible refine Kd.C_alloc ?_ _) | (with_reducible refine Kd.C_drewN ?_ _) | (with_reducible refine Kd.C_drew ?_))); (case side4 => exact (Kd.R_reads' HO403.out).2.1); rintro e w' ⟨rfl, ⟨nd, rfl⟩⟩; (try first | exact ⟨rfl, _, World.drewN_drewN _ _ _⟩ | exact ⟨rfl, _, Eq.trans (World.drewN_drewN _ _ _) (congrArg (World.drewN _) (Nat.add_assoc _ _ _))⟩))))
             go_meet
             case rel => exact ⟨_, (((t392.length : Int) != (t385.length : Int))), (by first | rfl | (simp; done) | (simp [*]; done)), H', ⟨by have := HJ2.out; first | omega | exact Nat.le_refl _⟩, ⟨by (with_reducible repeat (first | apply Kd.R_alloc | apply Kd.R_drewN | apply Kd.R_drew)); exact HO389.out⟩, ⟨by (with_reducible repeat (first | apply Kd.R_alloc | apply Kd.R_drewN | apply Kd.R_drew)); exact Kd.R_mono HO395.out (fun _ hk => trivial)⟩, ⟨by repeat (first | (with_reducible first | exact HB.out | apply below_alloc | apply pw_below_drewN | apply below_drew1) | exact HB.out)⟩⟩
            ·rw [if_neg c31] at H
             have c31b0 : ((t406.length : Int) == (t385.length : Int)) = false := beq_eq_false_iff_ne.mpr c31
             have c31b1 : ((t406.length : Int) != (t385.length : Int)) = true := bne_iff_ne.mpr c31
             have c31b2 : (t406.length == t385.length) = false := by first | simpa using c31 | (simp at c31 ⊢; omega)
             have H' := Aside0.mk H
             clear H
             obtain ⟨Ao36, co36, eo36⟩ := Kd.R_slice HO399.out
             subst eo36
             obtain ⟨Ao37, co37, eo37⟩ := Kd.R_slice HO403.out
             subst eo37
             obtain ⟨Ao38, co38, eo38⟩ := Kd.R_slice HO409.out
             subst eo38
             go_wp2_with (first | (go_at_call 39; (first | (with_reducible refine (laws_b10Nums.calls kj2 _ _ t396 _ _ t400 true _ ?side1 ?side2 ?side3 ?side4 A27.out).mono ?_) | ((try simp only [Go.IntWalk.i64_left]); (with_reducible refine (laws_b10Nums.calls kj2 _ _ t396 _ _ t400 true _ ?side1 ?side2 ?side3 ?side4 A27.out).mono ?_))); (case side1 => repeat (first | exact (Kd.R_reads' HO399.out).2.2 | (with_reducible refine Kd.C_alloc ?_ _) | (with_reducible refine Kd.C_drewN ?_ _) | (with_reducible refine Kd.C_drew ?_))); (case side2 => exact (Kd.R_reads' HO399.out).2.1); (case side3 => repeat (first | exact (Kd.R_reads' HO403.out).2.2 | (with_reducible refine Kd.C_alloc ?_ _) | (with_reducible refine Kd.C_drewN ?_ _) | (with_reducible refine Kd.C_drew ?_))); (case side4 => exact (Kd.R_reads' HO403.out).2.1); rintro e w' ⟨rfl, ⟨nd, rfl⟩⟩; (try first | exact ⟨rfl, _, World.drewN_drewN _ _ _⟩ | exact ⟨rfl, _, Eq.trans (World.drewN_drewN _ _ _) (congrArg (World.drewN _) (Nat.add_assoc _ _ _))⟩)))
             repeat (go_quiet (first | (go_at_call 39; (first | (with_reducible refine (laws_b10Nums.calls kj2 _ _ t396 _ _ t400 true _ ?side1 ?side2 ?side3 ?side4 A27.out).mono ?_) | ((try simp only [Go.IntWalk.i64_left]); (with_reducible refine (laws_b10Nums.calls kj2 _ _ t396 _ _ t400 true _ ?side1 ?side2 ?side3 ?side4 A27.out).mono ?_))); (case side1 => repeat (first | exact (Kd.R_reads' HO399.out).2.2 | (with_reducible refine Kd.C_alloc ?_ _) | (with_reducible refine Kd.C_drewN ?_ _) | (with_reducible refine Kd.C_drew ?_))); (case side2 => exact (Kd.R_reads' HO399.out).2.1); (case side3 => repeat (first | exact (Kd.R_reads' HO403.out).2.2 | (with_reducible refine Kd.C_alloc ?_ _) | (with_reducible refine Kd.C_drewN ?_ _) | (with_reducible refine Kd.C_drew ?_))); (case side4 => exact (Kd.R_reads' HO403.out).2.1); rintro e w' ⟨rfl, ⟨nd, rfl⟩⟩; (try first | exact ⟨rfl, _, World.drewN_drewN _ _ _⟩ | exact ⟨rfl, _, Eq.trans (World.drewN_drewN _ _ _) (congrArg (World.drewN _) (Nat.add_assoc _ _ _))⟩))); try go_wp2_with (first | (go_at_call 39; (first | (with_reducible refine (laws_b10Nums.calls kj2 _ _ t396 _ _ t400 true _ ?side1 ?side2 ?side3 ?side4 A27.out).mono ?_) | ((try simp only [Go.IntWalk.i64_left]); (with_reducible refine (laws_b10Nums.calls kj2 _ _ t396 _ _ t400 true _ ?side1 ?side2 ?side3 ?side4 A27.out).mono ?_))); (case side1 => repeat (first | exact (Kd.R_reads' HO399.out).2.2 | (with_reducible refine Kd.C_alloc ?_ _) | (with_reducible refine Kd.C_drewN ?_ _) | (with_reducible refine Kd.C_drew ?_))); (case side2 => exact (Kd.R_reads' HO399.out).2.1); (case side3 => repeat (first | exact (Kd.R_reads' HO403.out).2.2 | (with_reducible refine Kd.C_alloc ?_ _) | (with_reducible refine Kd.C_drewN ?_ _) | (with_reducible refine Kd.C_drew ?_))); (case side4 => exact (Kd.R_reads' HO403.out).2.1); rintro e w' ⟨rfl, ⟨nd, rfl⟩⟩; (try first | exact ⟨rfl, _, World.drewN_drewN _ _ _⟩ | exact ⟨rfl, _, Eq.trans (World.drewN_drewN _ _ _) (congrArg (World.drewN _) (Nat.add_assoc _ _ _))⟩))))
             go_meet
             case rel => exact ⟨_, (true), (by first | rfl | (simp; done) | (simp [*]; done)), H', ⟨by have := HJ2.out; first | omega | exact Nat.le_refl _⟩, ⟨by (with_reducible repeat (first | apply Kd.R_alloc | apply Kd.R_drewN | apply Kd.R_drew)); exact HO389.out⟩, ⟨by (with_reducible repeat (first | apply Kd.R_alloc | apply Kd.R_drewN | apply Kd.R_drew)); exact Kd.R_mono HO395.out (fun _ hk => trivial)⟩, ⟨by repeat (first | (with_reducible first | exact HB.out | apply below_alloc | apply pw_below_drewN | apply below_drew1) | exact HB.out)⟩⟩
           ·rw [if_neg c30] at H
            have c30b0 : (t407 == 0) = false := beq_eq_false_iff_ne.mpr c30
            have c30b1 : (t407 != 0) = true := bne_iff_ne.mpr c30
            have H' := Aside0.mk H
            clear H
            obtain ⟨Ao39, co39, eo39⟩ := Kd.R_slice HO399.out
            subst eo39
            obtain ⟨Ao40, co40, eo40⟩ := Kd.R_slice HO403.out
            subst eo40
            go_wp2_with (first | (go_at_call 39; (first | (with_reducible refine (laws_b10Nums.calls kj2 _ _ t396 _ _ t400 true _ ?side1 ?side2 ?side3 ?side4 A27.out).mono ?_) | ((try simp only [Go.IntWalk.i64_left]); (with_reducible refine (laws_b10Nums.calls kj2 _ _ t396 _ _ t400 true _ ?side1 ?side2 ?side3 ?side4 A27.out).mono ?_))); (case side1 => repeat (first | exact (Kd.R_reads' HO399.out).2.2 | (with_reducible refine Kd.C_alloc ?_ _) | (with_reducible refine Kd.C_drewN ?_ _) | (with_reducible refine Kd.C_drew ?_))); (case side2 => exact (Kd.R_reads' HO399.out).2.1); (case side3 => repeat (first | exact (Kd.R_reads' HO403.out).2.2 | (with_reducible refine Kd.C_alloc ?_ _) | (with_reducible refine Kd.C_drewN ?_ _) | (with_reducible refine Kd.C_drew ?_))); (case side4 => exact (Kd.R_reads' HO403.out).2.1); rintro e w' ⟨rfl, ⟨nd, rfl⟩⟩; (try first | exact ⟨rfl, _, World.drewN_drewN _ _ _⟩ | exact ⟨rfl, _, Eq.trans (World.drewN_drewN _ _ _) (congrArg (World.drewN _) (Nat.add_assoc _ _ _))⟩)))
            repeat (go_quiet (first | (go_at_call 39; (first | (with_reducible refine (laws_b10Nums.calls kj2 _ _ t396 _ _ t400 true _ ?side1 ?side2 ?side3 ?side4 A27.out).mono ?_) | ((try simp only [Go.IntWalk.i64_left]); (with_reducible refine (laws_b10Nums.calls kj2 _ _ t396 _ _ t400 true _ ?side1 ?side2 ?side3 ?side4 A27.out).mono ?_))); (case side1 => repeat (first | exact (Kd.R_reads' HO399.out).2.2 | (with_reducible refine Kd.C_alloc ?_ _) | (with_reducible refine Kd.C_drewN ?_ _) | (with_reducible refine Kd.C_drew ?_))); (case side2 => exact (Kd.R_reads' HO399.out).2.1); (case side3 => repeat (first | exact (Kd.R_reads' HO403.out).2.2 | (with_reducible refine Kd.C_alloc ?_ _) | (with_reducible refine Kd.C_drewN ?_ _) | (with_reducible refine Kd.C_drew ?_))); (case side4 => exact (Kd.R_reads' HO403.out).2.1); rintro e w' ⟨rfl, ⟨nd, rfl⟩⟩; (try first | exact ⟨rfl, _, World.drewN_drewN _ _ _⟩ | exact ⟨rfl, _, Eq.trans (World.drewN_drewN _ _ _) (congrArg (World.drewN _) (Nat.add_assoc _ _ _))⟩))); try go_wp2_with (first | (go_at_call 39; (first | (with_reducible refine (laws_b10Nums.calls kj2 _ _ t396 _ _ t400 true _ ?side1 ?side2 ?side3 ?side4 A27.out).mono ?_) | ((try simp only [Go.IntWalk.i64_left]); (with_reducible refine (laws_b10Nums.calls kj2 _ _ t396 _ _ t400 true _ ?side1 ?side2 ?side3 ?side4 A27.out).mono ?_))); (case side1 => repeat (first | exact (Kd.R_reads' HO399.out).2.2 | (with_reducible refine Kd.C_alloc ?_ _) | (with_reducible refine Kd.C_drewN ?_ _) | (with_reducible refine Kd.C_drew ?_))); (case side2 => exact (Kd.R_reads' HO399.out).2.1); (case side3 => repeat (first | exact (Kd.R_reads' HO403.out).2.2 | (with_reducible refine Kd.C_alloc ?_ _) | (with_reducible refine Kd.C_drewN ?_ _) | (with_reducible refine Kd.C_drew ?_))); (case side4 => exact (Kd.R_reads' HO403.out).2.1); rintro e w' ⟨rfl, ⟨nd, rfl⟩⟩; (try first | exact ⟨rfl, _, World.drewN_drewN _ _ _⟩ | exact ⟨rfl, _, Eq.trans (World.drewN_drewN _ _ _) (congrArg (World.drewN _) (Nat.add_assoc _ _ _))⟩))))
            go_meet
            case rel => exact ⟨_, (true), (by first | rfl | (simp; done) | (simp [*]; done)), H', ⟨by have := HJ2.out; first | omega | exact Nat.le_refl _⟩, ⟨by (with_reducible repeat (first | apply Kd.R_alloc | apply Kd.R_drewN | apply Kd.R_drew)); exact HO389.out⟩, ⟨by (with_reducible repeat (first | apply Kd.R_alloc | apply Kd.R_drewN | apply Kd.R_drew)); exact Kd.R_mono HO395.out (fun _ hk => trivial)⟩, ⟨by repeat (first | (with_reducible first | exact HB.out | apply below_alloc | apply pw_below_drewN | apply below_drew1) | exact HB.out)⟩⟩
          ·rw [if_neg c29] at H
           have c29b0 : (t405 == 0) = false := beq_eq_false_iff_ne.mpr c29
           have c29b1 : (t405 != 0) = true := bne_iff_ne.mpr c29
           have H' := Aside0.mk H
           clear H
           obtain ⟨Ao41, co41, eo41⟩ := Kd.R_slice HO399.out
           subst eo41
           obtain ⟨Ao42, co42, eo42⟩ := Kd.R_slice HO403.out
           subst eo42
           go_wp2_with (first | (go_at_call 39; (first | (with_reducible refine (laws_b10Nums.calls kj2 _ _ t396 _ _ t400 true _ ?side1 ?side2 ?side3 ?side4 A27.out).mono ?_) | ((try simp only [Go.IntWalk.i64_left]); (with_reducible refine (laws_b10Nums.calls kj2 _ _ t396 _ _ t400 true _ ?side1 ?side2 ?side3 ?side4 A27.out).mono ?_))); (case side1 => repeat (first | exact (Kd.R_reads' HO399.out).2.2 | (with_reducible refine Kd.C_alloc ?_ _) | (with_reducible refine Kd.C_drewN ?_ _) | (with_reducible refine Kd.C_drew ?_))); (case side2 => exact (Kd.R_reads' HO399.out).2.1); (case side3 => repeat (first | exact (Kd.R_reads' HO403.out).2.2 | (with_reducible refine Kd.C_alloc ?_ _) | (with_reducible refine Kd.C_drewN ?_ _) | (with_reducible refine Kd.C_drew ?_))); (case side4 => exact (Kd.R_reads' HO403.out).2.1); rintro e w' ⟨rfl, ⟨nd, rfl⟩⟩; (try first | exact ⟨rfl, _, World.drewN_drewN _ _ _⟩ | exact ⟨rfl, _, Eq.trans (World.drewN_drewN _ _ _) (congrArg (World.drewN _) (Nat.add_assoc _ _ _))⟩)))
           repeat (go_quiet (first | (go_at_call 39; (first | (with_reducible refine (laws_b10Nums.calls kj2 _ _ t396 _ _ t400 true _ ?side1 ?side2 ?side3 ?side4 A27.out).mono ?_) | ((try simp only [Go.IntWalk.i64_left]); (with_reducible refine (laws_b10Nums.calls kj2 _ _ t396 _ _ t400 true _ ?side1 ?side2 ?side3 ?side4 A27.out).mono ?_))); (case side1 => repeat (first | exact (Kd.R_reads' HO399.out).2.2 | (with_reducible refine Kd.C_alloc ?_ _) | (with_reducible refine Kd.C_drewN ?_ _) | (with_reducible refine Kd.C_drew ?_))); (case side2 => exact (Kd.R_reads' HO399.out).2.1); (case side3 => repeat (first | exact (Kd.R_reads' HO403.out).2.2 | (with_reducible refine Kd.C_alloc ?_ _) | (with_reducible refine Kd.C_drewN ?_ _) | (with_reducible refine Kd.C_drew ?_))); (case side4 => exact (Kd.R_reads' HO403.out).2.1); rintro e w' ⟨rfl, ⟨nd, rfl⟩⟩; (try first | exact ⟨rfl, _, World.drewN_drewN _ _ _⟩ | exact ⟨rfl, _, Eq.trans (World.drewN_drewN _ _ _) (congrArg (World.drewN _) (Nat.add_assoc _ _ _))⟩))); try go_wp2_with (first | (go_at_call 39; (first | (with_reducible refine (laws_b10Nums.calls kj2 _ _ t396 _ _ t400 true _ ?side1 ?side2 ?side3 ?side4 A27.out).mono ?_) | ((try simp only [Go.IntWalk.i64_left]); (with_reducible refine (laws_b10Nums.calls kj2 _ _ t396 _ _ t400 true _ ?side1 ?side2 ?side3 ?side4 A27.out).mono ?_))); (case side1 => repeat (first | exact (Kd.R_reads' HO399.out).2.2 | (with_reducible refine Kd.C_alloc ?_ _) | (with_reducible refine Kd.C_drewN ?_ _) | (with_reducible refine Kd.C_drew ?_))); (case side2 => exact (Kd.R_reads' HO399.out).2.1); (case side3 => repeat (first | exact (Kd.R_reads' HO403.out).2.2 | (with_reducible refine Kd.C_alloc ?_ _) | (with_reducible refine Kd.C_drewN ?_ _) | (with_reducible refine Kd.C_drew ?_))); (case side4 => exact (Kd.R_reads' HO403.out).2.1); rintro e w' ⟨rfl, ⟨nd, rfl⟩⟩; (try first | exact ⟨rfl, _, World.drewN_drewN _ _ _⟩ | exact ⟨rfl, _, Eq.trans (World.drewN_drewN _ _ _) (congrArg (World.drewN _) (Nat.add_assoc _ _ _))⟩))))
           go_meet
           case rel => exact ⟨_, (true), (by first | rfl | (simp; done) | (simp [*]; done)), H', ⟨by have := HJ2.out; first | omega | exact Nat.le_refl _⟩, ⟨by (with_reducible repeat (first | apply Kd.R_alloc | apply Kd.R_drewN | apply Kd.R_drew)); exact HO389.out⟩, ⟨by (with_reducible repeat (first | apply Kd.R_alloc | apply Kd.R_drewN | apply Kd.R_drew)); exact Kd.R_mono HO395.out (fun _ hk => trivial)⟩, ⟨by repeat (first | (with_reducible first | exact HB.out | apply below_alloc | apply pw_below_drewN | apply below_drew1) | exact HB.out)⟩⟩
         ·replace c28 := Bool.eq_false_iff.mpr c28
          subst c28
          have H1 : (laws_FnGangs.j1 kj2 l1 t385 t387 t392 t404 true) = some r := by rw [if_neg (show ¬ (false = true) by decide)] at H; exact H
          clear H
          have H := H1
          clear H1
          have H' := Aside0.mk H
          clear H
          obtain ⟨Ao43, co43, eo43⟩ := Kd.R_slice HO399.out
          subst eo43
          obtain ⟨Ao44, co44, eo44⟩ := Kd.R_slice HO403.out
          subst eo44
          go_wp2_with (first | (go_at_call 39; (first | (with_reducible refine (laws_b10Nums.calls kj2 _ _ t396 _ _ t400 false _ ?side1 ?side2 ?side3 ?side4 A27.out).mono ?_) | ((try simp only [Go.IntWalk.i64_left]); (with_reducible refine (laws_b10Nums.calls kj2 _ _ t396 _ _ t400 false _ ?side1 ?side2 ?side3 ?side4 A27.out).mono ?_))); (case side1 => repeat (first | exact (Kd.R_reads' HO399.out).2.2 | (with_reducible refine Kd.C_alloc ?_ _) | (with_reducible refine Kd.C_drewN ?_ _) | (with_reducible refine Kd.C_drew ?_))); (case side2 => exact (Kd.R_reads' HO399.out).2.1); (case side3 => repeat (first | exact (Kd.R_reads' HO403.out).2.2 | (with_reducible refine Kd.C_alloc ?_ _) | (with_reducible refine Kd.C_drewN ?_ _) | (with_reducible refine Kd.C_drew ?_))); (case side4 => exact (Kd.R_reads' HO403.out).2.1); rintro e w' ⟨rfl, ⟨nd, rfl⟩⟩; (try first | exact ⟨rfl, _, World.drewN_drewN _ _ _⟩ | exact ⟨rfl, _, Eq.trans (World.drewN_drewN _ _ _) (congrArg (World.drewN _) (Nat.add_assoc _ _ _))⟩)))
          repeat (go_quiet (first | (go_at_call 39; (first | (with_reducible refine (laws_b10Nums.calls kj2 _ _ t396 _ _ t400 false _ ?side1 ?side2 ?side3 ?side4 A27.out).mono ?_) | ((try simp only [Go.IntWalk.i64_left]); (with_reducible refine (laws_b10Nums.calls kj2 _ _ t396 _ _ t400 false _ ?side1 ?side2 ?side3 ?side4 A27.out).mono ?_))); (case side1 => repeat (first | exact (Kd.R_reads' HO399.out).2.2 | (with_reducible refine Kd.C_alloc ?_ _) | (with_reducible refine Kd.C_drewN ?_ _) | (with_reducible refine Kd.C_drew ?_))); (case side2 => exact (Kd.R_reads' HO399.out).2.1); (case side3 => repeat (first | exact (Kd.R_reads' HO403.out).2.2 | (with_reducible refine Kd.C_alloc ?_ _) | (with_reducible refine Kd.C_drewN ?_ _) | (with_reducible refine Kd.C_drew ?_))); (case side4 => exact (Kd.R_reads' HO403.out).2.1); rintro e w' ⟨rfl, ⟨nd, rfl⟩⟩; (try first | exact ⟨rfl, _, World.drewN_drewN _ _ _⟩ | exact ⟨rfl, _, Eq.trans (World.drewN_drewN _ _ _) (congrArg (World.drewN _) (Nat.add_assoc _ _ _))⟩))); try go_wp2_with (first | (go_at_call 39; (first | (with_reducible refine (laws_b10Nums.calls kj2 _ _ t396 _ _ t400 false _ ?side1 ?side2 ?side3 ?side4 A27.out).mono ?_) | ((try simp only [Go.IntWalk.i64_left]); (with_reducible refine (laws_b10Nums.calls kj2 _ _ t396 _ _ t400 false _ ?side1 ?side2 ?side3 ?side4 A27.out).mono ?_))); (case side1 => repeat (first | exact (Kd.R_reads' HO399.out).2.2 | (with_reducible refine Kd.C_alloc ?_ _) | (with_reducible refine Kd.C_drewN ?_ _) | (with_reducible refine Kd.C_drew ?_))); (case side2 => exact (Kd.R_reads' HO399.out).2.1); (case side3 => repeat (first | exact (Kd.R_reads' HO403.out).2.2 | (with_reducible refine Kd.C_alloc ?_ _) | (with_reducible refine Kd.C_drewN ?_ _) | (with_reducible refine Kd.C_drew ?_))); (case side4 => exact (Kd.R_reads' HO403.out).2.1); rintro e w' ⟨rfl, ⟨nd, rfl⟩⟩; (try first | exact ⟨rfl, _, World.drewN_drewN _ _ _⟩ | exact ⟨rfl, _, Eq.trans (World.drewN_drewN _ _ _) (congrArg (World.drewN _) (Nat.add_assoc _ _ _))⟩))))
          go_meet
          case rel => exact ⟨_, (true), (by first | rfl | (simp; done) | (simp [*]; done)), H', ⟨by have := HJ2.out; first | omega | exact Nat.le_refl _⟩, ⟨by (with_reducible repeat (first | apply Kd.R_alloc | apply Kd.R_drewN | apply Kd.R_drew)); exact HO389.out⟩, ⟨by (with_reducible repeat (first | apply Kd.R_alloc | apply Kd.R_drewN | apply Kd.R_drew)); exact Kd.R_mono HO395.out (fun _ hk => trivial)⟩, ⟨by repeat (first | (with_reducible first | exact HB.out | apply below_alloc | apply pw_below_drewN | apply below_drew1) | exact HB.out)⟩⟩
        ·rw [if_neg c26] at H
         have c26b0 : (t401 == 0) = false := beq_eq_false_iff_ne.mpr c26
         have c26b1 : (t401 != 0) = true := bne_iff_ne.mpr c26
         have H' := Aside0.mk H
         clear H
         go_wp2
         repeat (go_quiet (fail); try go_wp2)
         go_meet
         case rel => exact ⟨_, (true), (by first | rfl | (simp; done) | (simp [*]; done)), H', ⟨by have := HJ2.out; first | omega | exact Nat.le_refl _⟩, ⟨by (with_reducible repeat (first | apply Kd.R_alloc | apply Kd.R_drewN | apply Kd.R_drew)); exact HO389.out⟩, ⟨by (with_reducible repeat (first | apply Kd.R_alloc | apply Kd.R_drewN | apply Kd.R_drew)); exact Kd.R_mono HO395.out (fun _ hk => trivial)⟩, ⟨by repeat (first | (with_reducible first | exact HB.out | apply below_alloc | apply pw_below_drewN | apply below_drew1) | exact HB.out)⟩⟩
       ·rw [if_neg c25] at H
        have c25b0 : (t397 == 0) = false := beq_eq_false_iff_ne.mpr c25
        have c25b1 : (t397 != 0) = true := bne_iff_ne.mpr c25
        (first | rw [c25b0] | (simp only [i64_w, i32_w]; rw [c25b0]) | skip)
        have H' := Aside0.mk H
        clear H
        go_wp2
        repeat (go_quiet (fail); try go_wp2)
        go_meet
        case rel => exact ⟨_, (true), (by first | rfl | (simp; done) | (simp [*]; done)), H', ⟨by have := HJ2.out; first | omega | exact Nat.le_refl _⟩, ⟨by (with_reducible repeat (first | apply Kd.R_alloc | apply Kd.R_drewN | apply Kd.R_drew)); exact HO389.out⟩, ⟨by (with_reducible repeat (first | apply Kd.R_alloc | apply Kd.R_drewN | apply Kd.R_drew)); exact Kd.R_mono HO395.out (fun _ hk => trivial)⟩, ⟨by repeat (first | (with_reducible first | exact HB.out | apply below_alloc | apply pw_below_drewN | apply below_drew1) | exact HB.out)⟩⟩
      case rest =>
       clear HC20
       try clear c1
       try clear c2
       try clear p2
       try clear c3
       try clear c5
       try clear c7
       try clear c10
       try clear c15
       try clear c15b0
       try clear c15b1
       try clear c25
       try clear c25b0
       try clear c25b1
       try clear c26
       try clear c26b0
       try clear c26b1
       try clear c28
       try clear c29
       try clear c29b0
       try clear c29b1
       try clear c30
       try clear c30b0
       try clear c30b1
       try clear c31
       try clear c31b0
       try clear c31b1
       try clear c31b2
       try clear p2
       obtain ⟨kq, x111_19, rfl, HA, HJ19, HO_5, HO_8, HB⟩ := hcut
       cases kq with
       | zero => exact absurd HA.out (by simp [laws_FnGangs.j1])
       | succ kj19 =>
        have H := HA.out
        clear HA
        simp only [laws_FnGangs.j1] at H
        by_cases c45 : x111_19 = true
        ·subst c45
         have H1 : (some false) = some r := by rw [if_pos rfl] at H; exact H
         clear H
         have H := H1
         clear H1
         obtain rfl := Option.some.inj H
         go_wp2
         repeat (go_quiet (fail); try go_wp2)
         go_ret
         exact ⟨by first | rfl | (simp [errW_none, errW_some] <;> rfl) | (simp [*, errW_none, errW_some] <;> rfl), by repeat (first | (with_reducible first | exact HB.out | apply below_alloc | apply pw_below_drewN | apply below_drew1) | exact HB.out)⟩
        ·as_aux_lemma =>
         replace c45 := Bool.eq_false_iff.mpr c45
         subst c45
         have H1 : (laws_FnGangs.l0 kj19 l1 t385 t387 t392 t404 0) = some r := by rw [if_neg (show ¬ (false = true) by decide)] at H; exact H
         clear H
         have H := H1
         clear H1
         have H' := Aside0.mk H
         clear H
         go_wp2
         repeat (go_quiet (fail); try go_wp2)
         go_loopg [18] kj19 (fun kq v18 w' => ∃ (x18_3 : Int), v18 = .int .i64 x18_3 ∧ Aside0 (laws_FnGangs.l0 kq l1 t385 t387 t392 t404 x18_3 = some r) ∧ Aside0 (kq ≤ kj19) ∧ Aside0 (Kd.R k47 47 w' w.heap.size (fun _ => True) (.slice Ao12 t385.length co12) t385) ∧ Aside0 (Kd.R (Kd.int .i64) 2 w' w.heap.size (fun _ => True) v394 t392) ∧ Aside0 (Below w.heap.size w w'))
         case atStart => exact ⟨(0), (by first | rfl | (simp; done) | (simp [*]; done)), H', ⟨Nat.le_refl _⟩, ⟨by (with_reducible repeat (first | apply Kd.R_alloc | apply Kd.R_drewN | apply Kd.R_drew)); exact HO_5.out⟩, ⟨by (with_reducible repeat (first | apply Kd.R_alloc | apply Kd.R_drewN | apply Kd.R_drew)); exact HO_8.out⟩, ⟨by repeat (first | (with_reducible first | exact HB.out | apply below_alloc | apply pw_below_drewN | apply below_drew1) | exact HB.out)⟩⟩
         case round =>
          clear H'
          try clear c1
          try clear c2
          try clear p2
          try clear c3
          try clear c4
          try clear c5
          try clear c7
          try clear c10
          try clear c15
          try clear c15b0
          try clear c15b1
          try clear c25
          try clear c25b0
          try clear c25b1
          try clear c26
          try clear c26b0
          try clear c26b1
          try clear c28
          try clear c29
          try clear c29b0
          try clear c29b1
          try clear c30
          try clear c30b0
          try clear c30b1
          try clear c31
          try clear c31b0
          try clear c31b1
          try clear c31b2
          try clear c45
          try clear p2
          obtain ⟨x18_3, rfl, HA, HK3, HO_5, HO_8, HB⟩ := hrel
          cases gk with
          | zero => exact absurd HA.out (by simp [laws_FnGangs.l0])
          | succ k3 =>
           have H := HA.out
           clear HA
           simp only [laws_FnGangs.l0] at H
           by_cases c46 : x18_3 < (t385.length : Int)
           ·as_aux_lemma =>
            rw [if_pos c46] at H
            have c46b0 : decide (x18_3 < (t385.length : Int)) = true := decide_eq_true c46
            clear c46
            have HC47 := Aside0.mk H
            clear H
            go_upto_region 15 with (fail)
            repeat (go_quiet (fail); go_upto_region 15 with (fail))
            go_cut [141] (fun v141 wc => ∃ (kq : Nat) (x141_46 : Bool), v141 = .bool x141_46 ∧ Aside0 (laws_FnGangs.j3 kq l1 t385 t387 t392 t404 x18_3 x141_46 = some r) ∧ Aside0 (kq ≤ k3) ∧ Aside0 (Kd.R k47 47 wc w.heap.size (fun _ => True) (.slice Ao12 t385.length co12) t385) ∧ Aside0 (Kd.R (Kd.int .i64) 2 wc w.heap.size (fun _ => True) v394 t392) ∧ Aside0 (Below w.heap.size w wc))
            case first =>
             have H := HC47.out
             clear HC47
             by_cases c48 : 0 ≤ x18_3
             ·as_aux_lemma =>
              rw [if_pos c48] at H
              have c48b0 : decide (0 ≤ x18_3) = true := decide_eq_true c48
              clear c48
              (first | rw [c48b0] | (simp only [i64_w, i32_w]; rw [c48b0]) | skip)
              by_cases c49 : x18_3 < (t392.length : Int)
              ·rw [if_pos c49] at H
               have c49b0 : decide (x18_3 < (t392.length : Int)) = true := decide_eq_true c49
               clear c49
               by_cases c50 : (rd t392 x18_3) > t404
               ·rw [if_pos c50] at H
                have c50b0 : decide (t404 < (rd t392 x18_3)) = true := decide_eq_true c50
                clear c50
                have H' := Aside0.mk H
                clear H
                obtain ⟨Ao51, co51, eo51⟩ := Kd.R_slice HO_8.out
                subst eo51
                have p411 : 0 ≤ (x18_3 : Int) := of_decide_eq_true (by first | (with_reducible assumption) | assumption)
                have q411 : x18_3 < (t392.length : Int) := of_decide_eq_true (by first | (with_reducible assumption) | assumption)
                obtain ⟨ad411, e411, hx411_0⟩ := Kd.at_int (Kd.R_reads' HO_8.out).2.2 x18_3 p411 q411
                cases e411
                replace p411 := eq_true p411
                replace q411 := eq_true q411
                go_wp2
                repeat (go_quiet (fail); try go_wp2)
                go_meet
                case rel => exact ⟨_, (true), (by first | rfl | (simp; done) | (simp [*]; done)), H', ⟨by have := HJ2.out; have := HJ19.out; have := HK3.out; first | omega | exact Nat.le_refl _⟩, ⟨by (with_reducible repeat (first | apply Kd.R_alloc | apply Kd.R_drewN | apply Kd.R_drew)); exact HO_5.out⟩, ⟨by (with_reducible repeat (first | apply Kd.R_alloc | apply Kd.R_drewN | apply Kd.R_drew)); exact HO_8.out⟩, ⟨by repeat (first | (with_reducible first | exact HB.out | apply below_alloc | apply pw_below_drewN | apply below_drew1) | exact HB.out)⟩⟩
               ·rw [if_neg c50] at H
                have c50b0 : decide (t404 < (rd t392 x18_3)) = false := decide_eq_false c50
                clear c50
                have H' := Aside0.mk H
                clear H
                obtain ⟨Ao52, co52, eo52⟩ := Kd.R_slice HO_8.out
                subst eo52
                have p411 : 0 ≤ (x18_3 : Int) := of_decide_eq_true (by first | (with_reducible assumption) | assumption)
                have q411 : x18_3 < (t392.length : Int) := of_decide_eq_true (by first | (with_reducible assumption) | assumption)
                obtain ⟨ad411, e411, hx411_0⟩ := Kd.at_int (Kd.R_reads' HO_8.out).2.2 x18_3 p411 q411
                cases e411
                replace p411 := eq_true p411
                replace q411 := eq_true q411
                have p412 : 0 ≤ (x18_3 : Int) := of_decide_eq_true (by first | (with_reducible assumption) | assumption)
                have q412 : x18_3 < (t392.length : Int) := of_decide_eq_true (by first | (with_reducible assumption) | assumption)
                obtain ⟨ad412, e412, hx412_0⟩ := Kd.at_int (Kd.R_reads' HO_8.out).2.2 x18_3 p412 q412
                obtain rfl : ad411 = ad412 := (by injection e412)
                replace p412 := eq_true p412
                replace q412 := eq_true q412
                have p413 : 0 ≤ (x18_3 : Int) := of_decide_eq_true (by first | (with_reducible assumption) | assumption)
                have q413 : x18_3 < (t385.length : Int) := of_decide_eq_true (by first | (with_reducible assumption) | assumption)
                obtain ⟨ad413, e413, hx413_0, hx413_1, hx413_2, hx413_3⟩ := at_T47 (Kd.R_reads' HO_5.out).2.2 x18_3 p413 q413
                cases e413
                replace p413 := eq_true p413
                replace q413 := eq_true q413
                have p414 : 0 ≤ (x18_3 : Int) := of_decide_eq_true (by first | (with_reducible assumption) | assumption)
                have q414 : x18_3 < (t385.length : Int) := of_decide_eq_true (by first | (with_reducible assumption) | assumption)
                obtain ⟨ad414, e414, hx414_0, hx414_1, hx414_2, hx414_3⟩ := at_T47 (Kd.R_reads' HO_5.out).2.2 x18_3 p414 q414
                obtain rfl : ad413 = ad414 := (by injection e414)
                replace p414 := eq_true p414
                replace q414 := eq_true q414
                go_wp2
                repeat (go_quiet (fail); try go_wp2)
                go_meet
                case rel => exact ⟨_, (decide ((rd t392 x18_3) < (wrap64 (((rd_T47 t385 x18_3).f3) + ((rd_T47 t385 x18_3).f1))))), (by first | rfl | (simp; done) | (simp [*]; done)), H', ⟨by have := HJ2.out; have := HJ19.out; have := HK3.out; first | omega | exact Nat.le_refl _⟩, ⟨by (with_reducible repeat (first | apply Kd.R_alloc | apply Kd.R_drewN | apply Kd.R_drew)); exact HO_5.out⟩, ⟨by (with_reducible repeat (first | apply Kd.R_alloc | apply Kd.R_drewN | apply Kd.R_drew)); exact HO_8.out⟩, ⟨by repeat (first | (with_reducible first | exact HB.out | apply below_alloc | apply pw_below_drewN | apply below_drew1) | exact HB.out)⟩⟩
              ·rw [if_neg c49] at H
               exact absurd H (by simp)
             ·rw [if_neg c48] at H
              exact absurd H (by simp)
            case rest =>
             clear HC47
             try clear c1
             try clear c2
             try clear p2
             try clear c3
             try clear c4
             try clear p4
             try clear q4
             try clear hx4
             try clear c5
             try clear p6
             try clear c7
             try clear c10
             try clear c15
             try clear c15b0
             try clear c15b1
             try clear c25
             try clear c25b0
             try clear c25b1
             try clear c26
             try clear c26b0
             try clear c26b1
             try clear c28
             try clear c29
             try clear c29b0
             try clear c29b1
             try clear c30
             try clear c30b0
             try clear c30b1
             try clear c31
             try clear c31b0
             try clear c31b1
             try clear c31b2
             try clear p41
             try clear q41
             try clear hx41
             try clear c45
             try clear c46
             try clear c46b0
             try clear c48
             try clear c48b0
             try clear c49
             try clear c49b0
             try clear c50
             try clear c50b0
             try clear hx411_0
             try clear hx412_0
             try clear hx413_0
             try clear hx413_1
             try clear hx413_2
             try clear hx413_3
             try clear hx414_0
             try clear hx414_1
             try clear hx414_2
             try clear hx414_3
             try clear p2
             try clear p411
             try clear p412
             try clear p413
             try clear p414
             try clear q411
             try clear q412
             try clear q413
             try clear q414
             obtain ⟨kq, x141_46, rfl, HA, HJ46, HO_5, HO_8, HB⟩ := hcut
             cases kq with
             | zero => exact absurd HA.out (by simp [laws_FnGangs.j3])
             | succ kj46 =>
              have H := HA.out
              clear HA
              simp only [laws_FnGangs.j3] at H
              by_cases c53 : x141_46 = true
              ·subst c53
               have H1 : (some false) = some r := by rw [if_pos rfl] at H; exact H
               clear H
               have H := H1
               clear H1
               obtain rfl := Option.some.inj H
               go_wp2
               repeat (go_quiet (fail); try go_wp2)
               go_ret
               exact ⟨by first | rfl | (simp [errW_none, errW_some] <;> rfl) | (simp [*, errW_none, errW_some] <;> rfl), by repeat (first | (with_reducible first | exact HB.out | apply below_alloc | apply pw_below_drewN | apply below_drew1) | exact HB.out)⟩
              ·as_aux_lemma =>
               replace c53 := Bool.eq_false_iff.mpr c53
               subst c53
               have H1 : (laws_FnGangs.l1 kj46 l1 t385 t387 t392 t404 x18_3 0 0) = some r := by rw [if_neg (show ¬ (false = true) by decide)] at H; exact H
               clear H
               have H := H1
               clear H1
               have H' := Aside0.mk H
               clear H
               go_wp2
               repeat (go_quiet (fail); try go_wp2)
               go_loopg [19, 20] kj46 (fun kq v19 v20 w' => ∃ (x19_5 : Int) (x20_5 : Int), v19 = .int .i64 x19_5 ∧ v20 = .int .i64 x20_5 ∧ Aside0 (laws_FnGangs.l1 kq l1 t385 t387 t392 t404 x18_3 x19_5 x20_5 = some r) ∧ Aside0 (kq ≤ kj46) ∧ Aside0 (Kd.R k47 47 w' w.heap.size (fun _ => True) (.slice Ao12 t385.length co12) t385) ∧ Aside0 (Kd.R (Kd.int .i64) 2 w' w.heap.size (fun _ => True) v394 t392) ∧ Aside0 (Below w.heap.size w w'))
               case atStart => exact ⟨(0), (0), (by first | rfl | (simp; done) | (simp [*]; done)), (by first | rfl | (simp; done) | (simp [*]; done)), H', ⟨Nat.le_refl _⟩, ⟨by (with_reducible repeat (first | apply Kd.R_alloc | apply Kd.R_drewN | apply Kd.R_drew)); exact HO_5.out⟩, ⟨by (with_reducible repeat (first | apply Kd.R_alloc | apply Kd.R_drewN | apply Kd.R_drew)); exact HO_8.out⟩, ⟨by repeat (first | (with_reducible first | exact HB.out | apply below_alloc | apply pw_below_drewN | apply below_drew1) | exact HB.out)⟩⟩
               case round =>
                clear H'
                try clear c1
                try clear c2
                try clear p2
                try clear c3
                try clear c4
                try clear p4
                try clear q4
                try clear hx4
                try clear c5
                try clear p6
                try clear c7
                try clear c10
                try clear c15
                try clear c15b0
                try clear c15b1
                try clear c25
                try clear c25b0
                try clear c25b1
                try clear c26
                try clear c26b0
                try clear c26b1
                try clear c28
                try clear c29
                try clear c29b0
                try clear c29b1
                try clear c30
                try clear c30b0
                try clear c30b1
                try clear c31
                try clear c31b0
                try clear c31b1
                try clear c31b2
                try clear p41
                try clear q41
                try clear hx41
                try clear c45
                try clear c46
                try clear c46b0
                try clear c48
                try clear c48b0
                try clear c49
                try clear c49b0
                try clear c50
                try clear c50b0
                try clear c53
                try clear hx411_0
                try clear hx412_0
                try clear hx413_0
                try clear hx413_1
                try clear hx413_2
                try clear hx413_3
                try clear hx414_0
                try clear hx414_1
                try clear hx414_2
                try clear hx414_3
                try clear p2
                try clear p4
                try clear p41
                try clear p411
                try clear p412
                try clear p413
                try clear p414
                try clear p6
                try clear q4
                try clear q41
                try clear q411
                try clear q412
                try clear q413
                try clear q414
                obtain ⟨x19_5, x20_5, rfl, rfl, HA, HK5, HO_5, HO_8, HB⟩ := hrel
                cases gk with
                | zero => exact absurd HA.out (by simp [laws_FnGangs.l1])
                | succ k5 =>
                 have H := HA.out
                 clear HA
                 simp only [laws_FnGangs.l1] at H
                 by_cases c54 : x20_5 < (t385.length : Int)
                 ·as_aux_lemma =>
                  rw [if_pos c54] at H
                  have c54b0 : decide (x20_5 < (t385.length : Int)) = true := decide_eq_true c54
                  clear c54
                  by_cases c55 : 0 ≤ x20_5
                  ·as_aux_lemma =>
                   rw [if_pos c55] at H
                   have c55b0 : decide (0 ≤ x20_5) = true := decide_eq_true c55
                   clear c55
                   by_cases c56 : x20_5 < (t392.length : Int)
                   ·as_aux_lemma =>
                    rw [if_pos c56] at H
                    have c56b0 : decide (x20_5 < (t392.length : Int)) = true := decide_eq_true c56
                    clear c56
                    by_cases c57 : 0 ≤ x18_3
                    ·as_aux_lemma =>
                     rw [if_pos c57] at H
                     have c57b0 : decide (0 ≤ x18_3) = true := decide_eq_true c57
                     clear c57
                     by_cases c58 : x18_3 < (t392.length : Int)
                     ·as_aux_lemma =>
                      rw [if_pos c58] at H
                      have c58b0 : decide (x18_3 < (t392.length : Int)) = true := decide_eq_true c58
                      clear c58
                      by_cases c59 : x18_3 < (t385.length : Int)
                      ·as_aux_lemma =>
                       rw [if_pos c59] at H
                       have c59b0 : decide (x18_3 < (t385.length : Int)) = true := decide_eq_true c59
                       clear c59
                       by_cases c60 : (wrap64 ((rd t392 x20_5) - ((rd_T47 t385 x20_5).f1))) ≤ (wrap64 ((rd t392 x18_3) - ((rd_T47 t385 x18_3).f1)))
                       ·as_aux_lemma =>
                        rw [if_pos c60] at H
                        have c60b0 : decide ((wrap64 ((rd t392 x20_5) - ((rd_T47 t385 x20_5).f1))) ≤ (wrap64 ((rd t392 x18_3) - ((rd_T47 t385 x18_3).f1)))) = true := decide_eq_true c60
                        clear c60
                        by_cases c61 : (rd t392 x20_5) > (wrap64 ((rd t392 x18_3) - ((rd_T47 t385 x18_3).f1)))
                        ·rw [if_pos c61] at H
                         have c61b0 : decide ((wrap64 ((rd t392 x18_3) - ((rd_T47 t385 x18_3).f1))) < (rd t392 x20_5)) = true := decide_eq_true c61
                         clear c61
                         have H' := Aside0.mk H
                         clear H
                         obtain ⟨Ao62, co62, eo62⟩ := Kd.R_slice HO_8.out
                         subst eo62
                         have p415 : 0 ≤ (x20_5 : Int) := of_decide_eq_true (by first | (with_reducible assumption) | assumption)
                         have q415 : x20_5 < (t392.length : Int) := of_decide_eq_true (by first | (with_reducible assumption) | assumption)
                         obtain ⟨ad415, e415, hx415_0⟩ := Kd.at_int (Kd.R_reads' HO_8.out).2.2 x20_5 p415 q415
                         cases e415
                         replace p415 := eq_true p415
                         replace q415 := eq_true q415
                         have p416 : 0 ≤ (x20_5 : Int) := of_decide_eq_true (by first | (with_reducible assumption) | assumption)
                         have q416 : x20_5 < (t385.length : Int) := of_decide_eq_true (by first | (with_reducible assumption) | assumption)
                         obtain ⟨ad416, e416, hx416_0, hx416_1, hx416_2, hx416_3⟩ := at_T47 (Kd.R_reads' HO_5.out).2.2 x20_5 p416 q416
                         cases e416
                         replace p416 := eq_true p416
                         replace q416 := eq_true q416
                         have p417 : 0 ≤ (x18_3 : Int) := of_decide_eq_true (by first | (with_reducible assumption) | assumption)
                         have q417 : x18_3 < (t392.length : Int) := of_decide_eq_true (by first | (with_reducible assumption) | assumption)
                         obtain ⟨ad417, e417, hx417_0⟩ := Kd.at_int (Kd.R_reads' HO_8.out).2.2 x18_3 p417 q417
                         obtain rfl : ad415 = ad417 := (by injection e417)
                         replace p417 := eq_true p417
                         replace q417 := eq_true q417
                         have p418 : 0 ≤ (x18_3 : Int) := of_decide_eq_true (by first | (with_reducible assumption) | assumption)
                         have q418 : x18_3 < (t385.length : Int) := of_decide_eq_true (by first | (with_reducible assumption) | assumption)
                         obtain ⟨ad418, e418, hx418_0, hx418_1, hx418_2, hx418_3⟩ := at_T47 (Kd.R_reads' HO_5.out).2.2 x18_3 p418 q418
                         obtain rfl : ad416 = ad418 := (by injection e418)
                         replace p418 := eq_true p418
                         replace q418 := eq_true q418
                         have p419 : 0 ≤ (x20_5 : Int) := of_decide_eq_true (by first | (with_reducible assumption) | assumption)
                         have q419 : x20_5 < (t392.length : Int) := of_decide_eq_true (by first | (with_reducible assumption) | assumption)
                         obtain ⟨ad419, e419, hx419_0⟩ := Kd.at_int (Kd.R_reads' HO_8.out).2.2 x20_5 p419 q419
                         obtain rfl : ad415 = ad419 := (by injection e419)
                         replace p419 := eq_true p419
                         replace q419 := eq_true q419
                         have p420 : 0 ≤ (x18_3 : Int) := of_decide_eq_true (by first | (with_reducible assumption) | assumption)
                         have q420 : x18_3 < (t392.length : Int) := of_decide_eq_true (by first | (with_reducible assumption) | assumption)
                         obtain ⟨ad420, e420, hx420_0⟩ := Kd.at_int (Kd.R_reads' HO_8.out).2.2 x18_3 p420 q420
                         obtain rfl : ad415 = ad420 := (by injection e420)
                         replace p420 := eq_true p420
                         replace q420 := eq_true q420
                         have p421 : 0 ≤ (x18_3 : Int) := of_decide_eq_true (by first | (with_reducible assumption) | assumption)
                         have q421 : x18_3 < (t385.length : Int) := of_decide_eq_true (by first | (with_reducible assumption) | assumption)
                         obtain ⟨ad421, e421, hx421_0, hx421_1, hx421_2, hx421_3⟩ := at_T47 (Kd.R_reads' HO_5.out).2.2 x18_3 p421 q421
                         obtain rfl : ad416 = ad421 := (by injection e421)
                         replace p421 := eq_true p421
                         replace q421 := eq_true q421
                         go_wp2
                         repeat (go_quiet (fail); try go_wp2)
                         go_roundg k5
                         case measure => have := HJ2.out; have := HJ19.out; have := HK3.out; have := HJ46.out; have := HK5.out; omega
                         case rel => exact ⟨(wrap64 (x19_5 + 1)), (wrap64 (x20_5 + 1)), (by first | rfl | (simp; done) | (simp [*]; done)), (by first | rfl | (simp; done) | (simp [*]; done)), H', ⟨by have := HJ2.out; have := HJ19.out; have := HK3.out; have := HJ46.out; have := HK5.out; omega⟩, ⟨by (with_reducible repeat (first | apply Kd.R_alloc | apply Kd.R_drewN | apply Kd.R_drew)); exact HO_5.out⟩, ⟨by (with_reducible repeat (first | apply Kd.R_alloc | apply Kd.R_drewN | apply Kd.R_drew)); exact HO_8.out⟩, ⟨by repeat (first | (with_reducible first | exact HB.out | apply below_alloc | apply pw_below_drewN | apply below_drew1) | exact HB.out)⟩⟩
                        ·rw [if_neg c61] at H
                         have c61b0 : decide ((wrap64 ((rd t392 x18_3) - ((rd_T47 t385 x18_3).f1))) < (rd t392 x20_5)) = false := decide_eq_false c61
                         clear c61
                         have H' := Aside0.mk H
                         clear H
                         obtain ⟨Ao63, co63, eo63⟩ := Kd.R_slice HO_8.out
                         subst eo63
                         have p415 : 0 ≤ (x20_5 : Int) := of_decide_eq_true (by first | (with_reducible assumption) | assumption)
                         have q415 : x20_5 < (t392.length : Int) := of_decide_eq_true (by first | (with_reducible assumption) | assumption)
                         obtain ⟨ad415, e415, hx415_0⟩ := Kd.at_int (Kd.R_reads' HO_8.out).2.2 x20_5 p415 q415
                         cases e415
                         replace p415 := eq_true p415
                         replace q415 := eq_true q415
                         have p416 : 0 ≤ (x20_5 : Int) := of_decide_eq_true (by first | (with_reducible assumption) | assumption)
                         have q416 : x20_5 < (t385.length : Int) := of_decide_eq_true (by first | (with_reducible assumption) | assumption)
                         obtain ⟨ad416, e416, hx416_0, hx416_1, hx416_2, hx416_3⟩ := at_T47 (Kd.R_reads' HO_5.out).2.2 x20_5 p416 q416
                         cases e416
                         replace p416 := eq_true p416
                         replace q416 := eq_true q416
                         have p417 : 0 ≤ (x18_3 : Int) := of_decide_eq_true (by first | (with_reducible assumption) | assumption)
                         have q417 : x18_3 < (t392.length : Int) := of_decide_eq_true (by first | (with_reducible assumption) | assumption)
                         obtain ⟨ad417, e417, hx417_0⟩ := Kd.at_int (Kd.R_reads' HO_8.out).2.2 x18_3 p417 q417
                         obtain rfl : ad415 = ad417 := (by injection e417)
                         replace p417 := eq_true p417
                         replace q417 := eq_true q417
                         have p418 : 0 ≤ (x18_3 : Int) := of_decide_eq_true (by first | (with_reducible assumption) | assumption)
                         have q418 : x18_3 < (t385.length : Int) := of_decide_eq_true (by first | (with_reducible assumption) | assumption)
                         obtain ⟨ad418, e418, hx418_0, hx418_1, hx418_2, hx418_3⟩ := at_T47 (Kd.R_reads' HO_5.out).2.2 x18_3 p418 q418
                         obtain rfl : ad416 = ad418 := (by injection e418)
                         replace p418 := eq_true p418
                         replace q418 := eq_true q418
                         have p419 : 0 ≤ (x20_5 : Int) := of_decide_eq_true (by first | (with_reducible assumption) | assumption)
                         have q419 : x20_5 < (t392.length : Int) := of_decide_eq_true (by first | (with_reducible assumption) | assumption)
                         obtain ⟨ad419, e419, hx419_0⟩ := Kd.at_int (Kd.R_reads' HO_8.out).2.2 x20_5 p419 q419
                         obtain rfl : ad415 = ad419 := (by injection e419)
                         replace p419 := eq_true p419
                         replace q419 := eq_true q419
                         have p420 : 0 ≤ (x18_3 : Int) := of_decide_eq_true (by first | (with_reducible assumption) | assumption)
                         have q420 : x18_3 < (t392.length : Int) := of_decide_eq_true (by first | (with_reducible assumption) | assumption)
                         obtain ⟨ad420, e420, hx420_0⟩ := Kd.at_int (Kd.R_reads' HO_8.out).2.2 x18_3 p420 q420
                         obtain rfl : ad415 = ad420 := (by injection e420)
                         replace p420 := eq_true p420
                         replace q420 := eq_true q420
                         have p421 : 0 ≤ (x18_3 : Int) := of_decide_eq_true (by first | (with_reducible assumption) | assumption)
                         have q421 : x18_3 < (t385.length : Int) := of_decide_eq_true (by first | (with_reducible assumption) | assumption)
                         obtain ⟨ad421, e421, hx421_0, hx421_1, hx421_2, hx421_3⟩ := at_T47 (Kd.R_reads' HO_5.out).2.2 x18_3 p421 q421
                         obtain rfl : ad416 = ad421 := (by injection e421)
                         replace p421 := eq_true p421
                         replace q421 := eq_true q421
                         go_wp2
                         repeat (go_quiet (fail); try go_wp2)
                         go_roundg k5
                         case measure => have := HJ2.out; have := HJ19.out; have := HK3.out; have := HJ46.out; have := HK5.out; omega
                         case rel => exact ⟨(x19_5), (wrap64 (x20_5 + 1)), (by first | rfl | (simp; done) | (simp [*]; done)), (by first | rfl | (simp; done) | (simp [*]; done)), H', ⟨by have := HJ2.out; have := HJ19.out; have := HK3.out; have := HJ46.out; have := HK5.out; omega⟩, ⟨by (with_reducible repeat (first | apply Kd.R_alloc | apply Kd.R_drewN | apply Kd.R_drew)); exact HO_5.out⟩, ⟨by (with_reducible repeat (first | apply Kd.R_alloc | apply Kd.R_drewN | apply Kd.R_drew)); exact HO_8.out⟩, ⟨by repeat (first | (with_reducible first | exact HB.out | apply below_alloc | apply pw_below_drewN | apply below_drew1) | exact HB.out)⟩⟩
                       ·rw [if_neg c60] at H
                        have c60b0 : decide ((wrap64 ((rd t392 x20_5) - ((rd_T47 t385 x20_5).f1))) ≤ (wrap64 ((rd t392 x18_3) - ((rd_T47 t385 x18_3).f1)))) = false := decide_eq_false c60
                        clear c60
                        have H' := Aside0.mk H
                        clear H
                        obtain ⟨Ao64, co64, eo64⟩ := Kd.R_slice HO_8.out
                        subst eo64
                        have p415 : 0 ≤ (x20_5 : Int) := of_decide_eq_true (by first | (with_reducible assumption) | assumption)
                        have q415 : x20_5 < (t392.length : Int) := of_decide_eq_true (by first | (with_reducible assumption) | assumption)
                        obtain ⟨ad415, e415, hx415_0⟩ := Kd.at_int (Kd.R_reads' HO_8.out).2.2 x20_5 p415 q415
                        cases e415
                        replace p415 := eq_true p415
                        replace q415 := eq_true q415
                        have p416 : 0 ≤ (x20_5 : Int) := of_decide_eq_true (by first | (with_reducible assumption) | assumption)
                        have q416 : x20_5 < (t385.length : Int) := of_decide_eq_true (by first | (with_reducible assumption) | assumption)
                        obtain ⟨ad416, e416, hx416_0, hx416_1, hx416_2, hx416_3⟩ := at_T47 (Kd.R_reads' HO_5.out).2.2 x20_5 p416 q416
                        cases e416
                        replace p416 := eq_true p416
                        replace q416 := eq_true q416
                        have p417 : 0 ≤ (x18_3 : Int) := of_decide_eq_true (by first | (with_reducible assumption) | assumption)
                        have q417 : x18_3 < (t392.length : Int) := of_decide_eq_true (by first | (with_reducible assumption) | assumption)
                        obtain ⟨ad417, e417, hx417_0⟩ := Kd.at_int (Kd.R_reads' HO_8.out).2.2 x18_3 p417 q417
                        obtain rfl : ad415 = ad417 := (by injection e417)
                        replace p417 := eq_true p417
                        replace q417 := eq_true q417
                        have p418 : 0 ≤ (x18_3 : Int) := of_decide_eq_true (by first | (with_reducible assumption) | assumption)
                        have q418 : x18_3 < (t385.length : Int) := of_decide_eq_true (by first | (with_reducible assumption) | assumption)
                        obtain ⟨ad418, e418, hx418_0, hx418_1, hx418_2, hx418_3⟩ := at_T47 (Kd.R_reads' HO_5.out).2.2 x18_3 p418 q418
                        obtain rfl : ad416 = ad418 := (by injection e418)
                        replace p418 := eq_true p418
                        replace q418 := eq_true q418
                        go_wp2
                        repeat (go_quiet (fail); try go_wp2)
                        go_roundg k5
                        case measure => have := HJ2.out; have := HJ19.out; have := HK3.out; have := HJ46.out; have := HK5.out; omega
                        case rel => exact ⟨(x19_5), (wrap64 (x20_5 + 1)), (by first | rfl | (simp; done) | (simp [*]; done)), (by first | rfl | (simp; done) | (simp [*]; done)), H', ⟨by have := HJ2.out; have := HJ19.out; have := HK3.out; have := HJ46.out; have := HK5.out; omega⟩, ⟨by (with_reducible repeat (first | apply Kd.R_alloc | apply Kd.R_drewN | apply Kd.R_drew)); exact HO_5.out⟩, ⟨by (with_reducible repeat (first | apply Kd.R_alloc | apply Kd.R_drewN | apply Kd.R_drew)); exact HO_8.out⟩, ⟨by repeat (first | (with_reducible first | exact HB.out | apply below_alloc | apply pw_below_drewN | apply below_drew1) | exact HB.out)⟩⟩
                      ·rw [if_neg c59] at H
                       exact absurd H (by simp)
                     ·rw [if_neg c58] at H
                      exact absurd H (by simp)
                    ·rw [if_neg c57] at H
                     exact absurd H (by simp)
                   ·rw [if_neg c56] at H
                    exact absurd H (by simp)
                  ·rw [if_neg c55] at H
                   exact absurd H (by simp)
                 ·rw [if_neg c54] at H
                  have c54b0 : decide (x20_5 < (t385.length : Int)) = false := decide_eq_false c54
                  clear c54
                  by_cases c65 : x19_5 > t387
                  ·rw [if_pos c65] at H
                   have c65b0 : decide (t387 < x19_5) = true := decide_eq_true c65
                   clear c65
                   obtain rfl := Option.some.inj H
                   go_wp2
                   repeat (go_quiet (fail); try go_wp2)
                   go_ret
                   exact ⟨by first | rfl | (simp [errW_none, errW_some] <;> rfl) | (simp [*, errW_none, errW_some] <;> rfl), by repeat (first | (with_reducible first | exact HB.out | apply below_alloc | apply pw_below_drewN | apply below_drew1) | exact HB.out)⟩
                  ·rw [if_neg c65] at H
                   have c65b0 : decide (t387 < x19_5) = false := decide_eq_false c65
                   clear c65
                   have H' := Aside0.mk H
                   clear H
                   go_wp2
                   repeat (go_quiet (fail); try go_wp2)
                   go_roundg k5
                   case measure => have := HJ2.out; have := HJ19.out; have := HK3.out; have := HJ46.out; have := HK5.out; omega
                   case rel => exact ⟨(wrap64 (x18_3 + 1)), (by first | rfl | (simp; done) | (simp [*]; done)), H', ⟨by have := HJ2.out; have := HJ19.out; have := HK3.out; have := HJ46.out; have := HK5.out; omega⟩, ⟨by (with_reducible repeat (first | apply Kd.R_alloc | apply Kd.R_drewN | apply Kd.R_drew)); exact HO_5.out⟩, ⟨by (with_reducible repeat (first | apply Kd.R_alloc | apply Kd.R_drewN | apply Kd.R_drew)); exact HO_8.out⟩, ⟨by repeat (first | (with_reducible first | exact HB.out | apply below_alloc | apply pw_below_drewN | apply below_drew1) | exact HB.out)⟩⟩
           ·rw [if_neg c46] at H
            have c46b0 : decide (x18_3 < (t385.length : Int)) = false := decide_eq_false c46
            clear c46
            have H' := Aside0.mk H
            clear H
            go_wp2
            repeat (go_quiet (fail); try go_wp2)
            go_meet
            case rel => exact ⟨_, H', ⟨by have := HJ2.out; have := HJ19.out; have := HK3.out; first | omega | exact Nat.le_refl _⟩, ⟨by repeat (first | (with_reducible first | exact HB.out | apply below_alloc | apply pw_below_drewN | apply below_drew1) | exact HB.out)⟩⟩
     ·rw [if_neg c15] at H
      have c15b0 : (t393 == 0) = false := beq_eq_false_iff_ne.mpr c15
      have c15b1 : (t393 != 0) = true := bne_iff_ne.mpr c15
      (first | rw [c15b0] | (simp only [i64_w, i32_w]; rw [c15b0]) | skip)
      have H' := Aside0.mk H
      clear H
      go_wp2
      repeat (go_quiet (fail); try go_wp2)
      go_meet
      case rel => exact ⟨_, H', ⟨by have := HJ2.out; first | omega | exact Nat.le_refl _⟩, ⟨by repeat (first | (with_reducible first | exact HB.out | apply below_alloc | apply pw_below_drewN | apply below_drew1) | exact HB.out)⟩⟩
    case rest =>
     clear HC10
     try clear c1
     try clear c2
     try clear p2
     try clear c3
     try clear c4
     try clear p4
     try clear q4
     try clear hx4
     try clear c5
     try clear c6
     try clear p6
     try clear c7
     try clear c10
     try clear c15
     try clear c15b0
     try clear c15b1
     try clear c25
     try clear c25b0
     try clear c25b1
     try clear c26
     try clear c26b0
     try clear c26b1
     try clear c28
     try clear c29
     try clear c29b0
     try clear c29b1
     try clear c30
     try clear c30b0
     try clear c30b1
     try clear c31
     try clear c31b0
     try clear c31b1
     try clear c31b2
     try clear p41
     try clear q41
     try clear hx41
     try clear p42
     try clear q42
     try clear hx42
     try clear c45
     try clear c46
     try clear c46b0
     try clear c48
     try clear c48b0
     try clear c49
     try clear c49b0
     try clear c50
     try clear c50b0
     try clear c53
     try clear c54
     try clear c54b0
     try clear c55
     try clear c55b0
     try clear c56
     try clear c56b0
     try clear c57
     try clear c57b0
     try clear c58
     try clear c58b0
     try clear c59
     try clear c59b0
     try clear c60
     try clear c60b0
     try clear c61
     try clear c61b0
     try clear p64
     try clear c65
     try clear c65b0
     try clear hx411_0
     try clear hx412_0
     try clear hx413_0
     try clear hx413_1
     try clear hx413_2
     try clear hx413_3
     try clear hx414_0
     try clear hx414_1
     try clear hx414_2
     try clear hx414_3
     try clear hx415_0
     try clear hx416_0
     try clear hx416_1
     try clear hx416_2
     try clear hx416_3
     try clear hx417_0
     try clear hx418_0
     try clear hx418_1
     try clear hx418_2
     try clear hx418_3
     try clear hx419_0
     try clear hx420_0
     try clear hx421_0
     try clear hx421_1
     try clear hx421_2
     try clear hx421_3
     try clear p2
     try clear p4
     try clear p41
     try clear p411
     try clear p412
     try clear p413
     try clear p414
     try clear p415
     try clear p416
     try clear p417
     try clear p418
     try clear p419
     try clear p420
     try clear p421
     try clear p6
     try clear q4
     try clear q41
     try clear q411
     try clear q412
     try clear q413
     try clear q414
     try clear q415
     try clear q416
     try clear q417
     try clear q418
     try clear q419
     try clear q420
     try clear q421
     obtain ⟨kq, HA, HJ9, HB⟩ := hcut
     cases kq with
     | zero => exact absurd HA.out (by simp [laws_FnGangs.j5])
     | succ kj9 =>
      have H := HA.out
      clear HA
      simp only [laws_FnGangs.j5] at H
      replace H := Option.bind_eq_some_iff.mp H
      obtain ⟨⟨t422, t423, t424⟩, A660, H⟩ := H
      replace H : ((impl_FewestGangs.f kj9 t422 t423 t424).bind fun bt429 => (if bt429.2 = 0 then ((impl_LatestEnd.f kj9 t422 t423 bt429.1).bind fun bt431 => (if bt431.2 = 0 then (if bt431.1 > t424 then (some false) else ((impl_LatestEnd.f kj9 t422 t423 (wrap64 (bt429.1 - 1))).bind fun bt433 => (if bt433.2 = 0 then (some (decide (bt433.1 > t424))) else (some true)))) else (some false))) else (some (bt429.1 == 0)))) = some r := H
      have A66 := Aside0.mk A660
      clear A660
      replace H := Option.bind_eq_some_iff.mp H
      obtain ⟨⟨t429, t430⟩, A670, H⟩ := H
      replace H : (if t430 = 0 then ((impl_LatestEnd.f kj9 t422 t423 t429).bind fun bt431 => (if bt431.2 = 0 then (if bt431.1 > t424 then (some false) else ((impl_LatestEnd.f kj9 t422 t423 (wrap64 (t429 - 1))).bind fun bt433 => (if bt433.2 = 0 then (some (decide (bt433.1 > t424))) else (some true)))) else (some false))) else (some (t429 == 0))) = some r := H
      have A67 := Aside0.mk A670
      clear A670
      by_cases c68 : t430 = 0
      ·rw [if_pos c68] at H
       have c68b0 : (t430 == 0) = true := beq_iff_eq.mpr c68
       have c68b1 : (t430 != 0) = false := bne_eq_false_iff_eq.mpr c68
       clear c68
       replace H := Option.bind_eq_some_iff.mp H
       obtain ⟨⟨t431, t432⟩, A690, H⟩ := H
       replace H : (if t432 = 0 then (if t431 > t424 then (some false) else ((impl_LatestEnd.f kj9 t422 t423 (wrap64 (t429 - 1))).bind fun bt433 => (if bt433.2 = 0 then (some (decide (bt433.1 > t424))) else (some true)))) else (some false)) = some r := H
       have A69 := Aside0.mk A690
       clear A690
       by_cases c70 : t432 = 0
       ·rw [if_pos c70] at H
        have c70b0 : (t432 == 0) = true := beq_iff_eq.mpr c70
        have c70b1 : (t432 != 0) = false := bne_eq_false_iff_eq.mpr c70
        clear c70
        by_cases c71 : t431 > t424
        ·rw [if_pos c71] at H
         have c71b0 : decide (t424 < t431) = true := decide_eq_true c71
         clear c71
         obtain rfl := Option.some.inj H
         go_wp2_with (first | (go_at_call 40; (first | (with_reducible refine (spec_DrawFewestGangs.calls kj9 _ _ l1 t422 t423 t424 _ ?side1 ?side2 A66.out).mono ?_) | ((try simp only [Go.IntWalk.i64_left]); (with_reducible refine (spec_DrawFewestGangs.calls kj9 _ _ l1 t422 t423 t424 _ ?side1 ?side2 A66.out).mono ?_))); (case side1 => repeat (first | exact (Kd.C_below HR1.out HB.out) | (with_reducible refine Kd.C_alloc ?_ _) | (with_reducible refine Kd.C_drewN ?_ _) | (with_reducible refine Kd.C_drew ?_))); (case side2 => exact HC1.out); rintro e w72 ⟨v425, v427, rfl, ho0, ho1, hb⟩; have n0_ := Aside0.mk (Kd.R_lower ho0 (below_size (by repeat (first | (with_reducible first | exact HB.out | apply below_alloc | apply pw_below_drewN | apply below_drew1) | exact HB.out)))); have n1_ := Aside0.mk (Kd.R_lower ho1 (below_size (by repeat (first | (with_reducible first | exact HB.out | apply below_alloc | apply pw_below_drewN | apply below_drew1) | exact HB.out)))); have n2_ := Aside0.mk (below_step (by repeat (first | (with_reducible first | exact HB.out | apply below_alloc | apply pw_below_drewN | apply below_drew1) | exact HB.out)) hb); clear HB; have HO426 := n0_; have HO428 := n1_; have HB := n2_; clear n0_ n1_ n2_; (try clear hb); (try clear hb2); (try clear hk); (try clear hi); (try clear ho0); (try clear ho1); obtain ⟨Ao73, co73, eo73⟩ := Kd.R_slice HO426.out; subst eo73; obtain ⟨Ao74, co74, eo74⟩ := Kd.R_slice HO428.out; subst eo74) | (go_at_call 32; (first | (with_reducible refine (impl_FewestGangs.calls kj9 _ _ t422 _ _ t423 t424 t429 t430 _ ?side1 ?side2 ?side3 ?side4 A67.out).mono ?_) | ((try simp only [Go.IntWalk.i64_left]); (with_reducible refine (impl_FewestGangs.calls kj9 _ _ t422 _ _ t423 t424 t429 t430 _ ?side1 ?side2 ?side3 ?side4 A67.out).mono ?_))); (case side1 => repeat (first | exact (Kd.R_reads' HO426.out).2.2 | (with_reducible refine Kd.C_alloc ?_ _) | (with_reducible refine Kd.C_drewN ?_ _) | (with_reducible refine Kd.C_drew ?_))); (case side2 => exact (Kd.R_reads' HO426.out).2.1); (case side3 => repeat (first | exact (Kd.R_reads' HO428.out).2.2 | (with_reducible refine Kd.C_alloc ?_ _) | (with_reducible refine Kd.C_drewN ?_ _) | (with_reducible refine Kd.C_drew ?_))); (case side4 => exact (Kd.R_reads' HO428.out).2.1); rintro e w75 ⟨rfl, hb⟩; have n0_ := Aside0.mk (Kd.R_below (by (with_reducible repeat (first | apply Kd.R_alloc | apply Kd.R_drewN | apply Kd.R_drew)); exact HO426.out) hb); have n1_ := Aside0.mk (Kd.R_below (by (with_reducible repeat (first | apply Kd.R_alloc | apply Kd.R_drewN | apply Kd.R_drew)); exact HO428.out) hb); have n2_ := Aside0.mk (below_step (by repeat (first | (with_reducible first | exact HB.out | apply below_alloc | apply pw_below_drewN | apply below_drew1) | exact HB.out)) hb); clear HO426; clear HO428; clear HB; have HO426 := n0_; have HO428 := n1_; have HB := n2_; clear n0_ n1_ n2_; (try clear hb); (try clear hb2); (try clear hk); (try clear hi)) | (go_at_call 23; (first | (with_reducible refine (impl_LatestEnd.calls kj9 _ _ t422 _ _ t423 t429 t431 t432 _ ?side1 ?side2 ?side3 ?side4 A69.out).mono ?_) | ((try simp only [Go.IntWalk.i64_left]); (with_reducible refine (impl_LatestEnd.calls kj9 _ _ t422 _ _ t423 t429 t431 t432 _ ?side1 ?side2 ?side3 ?side4 A69.out).mono ?_))); (case side1 => repeat (first | exact (Kd.R_reads' HO426.out).2.2 | (with_reducible refine Kd.C_alloc ?_ _) | (with_reducible refine Kd.C_drewN ?_ _) | (with_reducible refine Kd.C_drew ?_))); (case side2 => exact (Kd.R_reads' HO426.out).2.1); (case side3 => repeat (first | exact (Kd.R_reads' HO428.out).2.2 | (with_reducible refine Kd.C_alloc ?_ _) | (with_reducible refine Kd.C_drewN ?_ _) | (with_reducible refine Kd.C_drew ?_))); (case side4 => exact (Kd.R_reads' HO428.out).2.1); rintro e w76 ⟨rfl, hb⟩; have n0_ := Aside0.mk (Kd.R_below (by (with_reducible repeat (first | apply Kd.R_alloc | apply Kd.R_drewN | apply Kd.R_drew)); exact HO426.out) hb); have n1_ := Aside0.mk (Kd.R_below (by (with_reducible repeat (first | apply Kd.R_alloc | apply Kd.R_drewN | apply Kd.R_drew)); exact HO428.out) hb); have n2_ := Aside0.mk (below_step (by repeat (first | (with_reducible first | exact HB.out | apply below_alloc | apply pw_below_drewN | apply below_drew1) | exact HB.out)) hb); clear HO426; clear HO428; clear HB; have HO426 := n0_; have HO428 := n1_; have HB := n2_; clear n0_ n1_ n2_; (try clear hb); (try clear hb2); (try clear hk); (try clear hi)))
         repeat (go_quiet (first | (go_at_call 40; (first | (with_reducible refine (spec_DrawFewestGangs.calls kj9 _ _ l1 t422 t423 t424 _ ?side1 ?side2 A66.out).mono ?_) | ((try simp only [Go.IntWalk.i64_left]); (with_reducible refine (spec_DrawFewestGangs.calls kj9 _ _ l1 t422 t423 t424 _ ?side1 ?side2 A66.out).mono ?_))); (case side1 => repeat (first | exact (Kd.C_below HR1.out HB.out) | (with_reducible refine Kd.C_alloc ?_ _) | (with_reducible refine Kd.C_drewN ?_ _) | (with_reducible refine Kd.C_drew ?_))); (case side2 => exact HC1.out); rintro e w72 ⟨v425, v427, rfl, ho0, ho1, hb⟩; have n0_ := Aside0.mk (Kd.R_lower ho0 (below_size (by repeat (first | (with_reducible first | exact HB.out | apply below_alloc | apply pw_below_drewN | apply below_drew1) | exact HB.out)))); have n1_ := Aside0.mk (Kd.R_lower ho1 (below_size (by repeat (first | (with_reducible first | exact HB.out | apply below_alloc | apply pw_below_drewN | apply below_drew1) | exact HB.out)))); have n2_ := Aside0.mk (below_step (by repeat (first | (with_reducible first | exact HB.out | apply below_alloc | apply pw_below_drewN | apply below_drew1) | exact HB.out)) hb); clear HB; have HO426 := n0_; have HO428 := n1_; have HB := n2_; clear n0_ n1_ n2_; (try clear hb); (try clear hb2); (try clear hk); (try clear hi); (try clear ho0); (try clear ho1); obtain ⟨Ao73, co73, eo73⟩ := Kd.R_slice HO426.out; subst eo73; obtain ⟨Ao74, co74, eo74⟩ := Kd.R_slice HO428.out; subst eo74) | (go_at_call 32; (first | (with_reducible refine (impl_FewestGangs.calls kj9 _ _ t422 _ _ t423 t424 t429 t430 _ ?side1 ?side2 ?side3 ?side4 A67.out).mono ?_) | ((try simp only [Go.IntWalk.i64_left]); (with_reducible refine (impl_FewestGangs.calls kj9 _ _ t422 _ _ t423 t424 t429 t430 _ ?side1 ?side2 ?side3 ?side4 A67.out).mono ?_))); (case side1 => repeat (first | exact (Kd.R_reads' HO426.out).2.2 | (with_reducible refine Kd.C_alloc ?_ _) | (with_reducible refine Kd.C_drewN ?_ _) | (with_reducible refine Kd.C_drew ?_))); (case side2 => exact (Kd.R_reads' HO426.out).2.1); (case side3 => repeat (first | exact (Kd.R_reads' HO428.out).2.2 | (with_reducible refine Kd.C_alloc ?_ _) | (with_reducible refine Kd.C_drewN ?_ _) | (with_reducible refine Kd.C_drew ?_))); (case side4 => exact (Kd.R_reads' HO428.out).2.1); rintro e w75 ⟨rfl, hb⟩; have n0_ := Aside0.mk (Kd.R_below (by (with_reducible repeat (first | apply Kd.R_alloc | apply Kd.R_drewN | apply Kd.R_drew)); exact HO426.out) hb); have n1_ := Aside0.mk (Kd.R_below (by (with_reducible repeat (first | apply Kd.R_alloc | apply Kd.R_drewN | apply Kd.R_drew)); exact HO428.out) hb); have n2_ := Aside0.mk (below_step (by repeat (first | (with_reducible first | exact HB.out | apply below_alloc | apply pw_below_drewN | apply below_drew1) | exact HB.out)) hb); clear HO426; clear HO428; clear HB; have HO426 := n0_; have HO428 := n1_; have HB := n2_; clear n0_ n1_ n2_; (try clear hb); (try clear hb2); (try clear hk); (try clear hi)) | (go_at_call 23; (first | (with_reducible refine (impl_LatestEnd.calls kj9 _ _ t422 _ _ t423 t429 t431 t432 _ ?side1 ?side2 ?side3 ?side4 A69.out).mono ?_) | ((try simp only [Go.IntWalk.i64_left]); (with_reducible refine (impl_LatestEnd.calls kj9 _ _ t422 _ _ t423 t429 t431 t432 _ ?side1 ?side2 ?side3 ?side4 A69.out).mono ?_))); (case side1 => repeat (first | exact (Kd.R_reads' HO426.out).2.2 | (with_reducible refine Kd.C_alloc ?_ _) | (with_reducible refine Kd.C_drewN ?_ _) | (with_reducible refine Kd.C_drew ?_))); (case side2 => exact (Kd.R_reads' HO426.out).2.1); (case side3 => repeat (first | exact (Kd.R_reads' HO428.out).2.2 | (with_reducible refine Kd.C_alloc ?_ _) | (with_reducible refine Kd.C_drewN ?_ _) | (with_reducible refine Kd.C_drew ?_))); (case side4 => exact (Kd.R_reads' HO428.out).2.1); rintro e w76 ⟨rfl, hb⟩; have n0_ := Aside0.mk (Kd.R_below (by (with_reducible repeat (first | apply Kd.R_alloc | apply Kd.R_drewN | apply Kd.R_drew)); exact HO426.out) hb); have n1_ := Aside0.mk (Kd.R_below (by (with_reducible repeat (first | apply Kd.R_alloc | apply Kd.R_drewN | apply Kd.R_drew)); exact HO428.out) hb); have n2_ := Aside0.mk (below_step (by repeat (first | (with_reducible first | exact HB.out | apply below_alloc | apply pw_below_drewN | apply below_drew1) | exact HB.out)) hb); clear HO426; clear HO428; clear HB; have HO426 := n0_; have HO428 := n1_; have HB := n2_; clear n0_ n1_ n2_; (try clear hb); (try clear hb2); (try clear hk); (try clear hi))); try go_wp2_with (first | (go_at_call 40; (first | (with_reducible refine (spec_DrawFewestGangs.calls kj9 _ _ l1 t422 t423 t424 _ ?side1 ?side2 A66.out).mono ?_) | ((try simp only [Go.IntWalk.i64_left]); (with_reducible refine (spec_DrawFewestGangs.calls kj9 _ _ l1 t422 t423 t424 _ ?side1 ?side2 A66.out).mono ?_))); (case side1 => repeat (first | exact (Kd.C_below HR1.out HB.out) | (with_reducible refine Kd.C_alloc ?_ _) | (with_reducible refine Kd.C_drewN ?_ _) | (with_reducible refine Kd.C_drew ?_))); (case side2 => exact HC1.out); rintro e w72 ⟨v425, v427, rfl, ho0, ho1, hb⟩; have n0_ := Aside0.mk (Kd.R_lower ho0 (below_size (by repeat (first | (with_reducible first | exact HB.out | apply below_alloc | apply pw_below_drewN | apply below_drew1) | exact HB.out)))); have n1_ := Aside0.mk (Kd.R_lower ho1 (below_size (by repeat (first | (with_reducible first | exact HB.out | apply below_alloc | apply pw_below_drewN | apply below_drew1) | exact HB.out)))); have n2_ := Aside0.mk (below_step (by repeat (first | (with_reducible first | exact HB.out | apply below_alloc | apply pw_below_drewN | apply below_drew1) | exact HB.out)) hb); clear HB; have HO426 := n0_; have HO428 := n1_; have HB := n2_; clear n0_ n1_ n2_; (try clear hb); (try clear hb2); (try clear hk); (try clear hi); (try clear ho0); (try clear ho1); obtain ⟨Ao73, co73, eo73⟩ := Kd.R_slice HO426.out; subst eo73; obtain ⟨Ao74, co74, eo74⟩ := Kd.R_slice HO428.out; subst eo74) | (go_at_call 32; (first | (with_reducible refine (impl_FewestGangs.calls kj9 _ _ t422 _ _ t423 t424 t429 t430 _ ?side1 ?side2 ?side3 ?side4 A67.out).mono ?_) | ((try simp only [Go.IntWalk.i64_left]); (with_reducible refine (impl_FewestGangs.calls kj9 _ _ t422 _ _ t423 t424 t429 t430 _ ?side1 ?side2 ?side3 ?side4 A67.out).mono ?_))); (case side1 => repeat (first | exact (Kd.R_reads' HO426.out).2.2 | (with_reducible refine Kd.C_alloc ?_ _) | (with_reducible refine Kd.C_drewN ?_ _) | (with_reducible refine Kd.C_drew ?_))); (case side2 => exact (Kd.R_reads' HO426.out).2.1); (case side3 => repeat (first | exact (Kd.R_reads' HO428.out).2.2 | (with_reducible refine Kd.C_alloc ?_ _) | (with_reducible refine Kd.C_drewN ?_ _) | (with_reducible refine Kd.C_drew ?_))); (case side4 => exact (Kd.R_reads' HO428.out).2.1); rintro e w75 ⟨rfl, hb⟩; have n0_ := Aside0.mk (Kd.R_below (by (with_reducible repeat (first | apply Kd.R_alloc | apply Kd.R_drewN | apply Kd.R_drew)); exact HO426.out) hb); have n1_ := Aside0.mk (Kd.R_below (by (with_reducible repeat (first | apply Kd.R_alloc | apply Kd.R_drewN | apply Kd.R_drew)); exact HO428.out) hb); have n2_ := Aside0.mk (below_step (by repeat (first | (with_reducible first | exact HB.out | apply below_alloc | apply pw_below_drewN | apply below_drew1) | exact HB.out)) hb); clear HO426; clear HO428; clear HB; have HO426 := n0_; have HO428 := n1_; have HB := n2_; clear n0_ n1_ n2_; (try clear hb); (try clear hb2); (try clear hk); (try clear hi)) | (go_at_call 23; (first | (with_reducible refine (impl_LatestEnd.calls kj9 _ _ t422 _ _ t423 t429 t431 t432 _ ?side1 ?side2 ?side3 ?side4 A69.out).mono ?_) | ((try simp only [Go.IntWalk.i64_left]); (with_reducible refine (impl_LatestEnd.calls kj9 _ _ t422 _ _ t423 t429 t431 t432 _ ?side1 ?side2 ?side3 ?side4 A69.out).mono ?_))); (case side1 => repeat (first | exact (Kd.R_reads' HO426.out).2.2 | (with_reducible refine Kd.C_alloc ?_ _) | (with_reducible refine Kd.C_drewN ?_ _) | (with_reducible refine Kd.C_drew ?_))); (case side2 => exact (Kd.R_reads' HO426.out).2.1); (case side3 => repeat (first | exact (Kd.R_reads' HO428.out).2.2 | (with_reducible refine Kd.C_alloc ?_ _) | (with_reducible refine Kd.C_drewN ?_ _) | (with_reducible refine Kd.C_drew ?_))); (case side4 => exact (Kd.R_reads' HO428.out).2.1); rintro e w76 ⟨rfl, hb⟩; have n0_ := Aside0.mk (Kd.R_below (by (with_reducible repeat (first | apply Kd.R_alloc | apply Kd.R_drewN | apply Kd.R_drew)); exact HO426.out) hb); have n1_ := Aside0.mk (Kd.R_below (by (with_reducible repeat (first | apply Kd.R_alloc | apply Kd.R_drewN | apply Kd.R_drew)); exact HO428.out) hb); have n2_ := Aside0.mk (below_step (by repeat (first | (with_reducible first | exact HB.out | apply below_alloc | apply pw_below_drewN | apply below_drew1) | exact HB.out)) hb); clear HO426; clear HO428; clear HB; have HO426 := n0_; have HO428 := n1_; have HB := n2_; clear n0_ n1_ n2_; (try clear hb); (try clear hb2); (try clear hk); (try clear hi))))
         go_ret
         exact ⟨by first | rfl | (simp [errW_none, errW_some] <;> rfl) | (simp [*, errW_none, errW_some] <;> rfl), by repeat (first | (with_reducible first | exact HB.out | apply below_alloc | apply pw_below_drewN | apply below_drew1) | exact HB.out)⟩
        ·rw [if_neg c71] at H
         have c71b0 : decide (t424 < t431) = false := decide_eq_false c71
         clear c71
         replace H := Option.bind_eq_some_iff.mp H
         obtain ⟨⟨t433, t434⟩, A770, H⟩ := H
         replace H : (if t434 = 0 then (some (decide (t433 > t424))) else (some true)) = some r := H
         have A77 := Aside0.mk A770
         clear A770
         by_cases c78 : t434 = 0
         ·rw [if_pos c78] at H
          have c78b0 : (t434 == 0) = true := beq_iff_eq.mpr c78
          have c78b1 : (t434 != 0) = false := bne_eq_false_iff_eq.mpr c78
          clear c78
          obtain rfl := Option.some.inj H
          go_wp2_with (first | (go_at_call 40; (first | (with_reducible refine (spec_DrawFewestGangs.calls kj9 _ _ l1 t422 t423 t424 _ ?side1 ?side2 A66.out).mono ?_) | ((try simp only [Go.IntWalk.i64_left]); (with_reducible refine (spec_DrawFewestGangs.calls kj9 _ _ l1 t422 t423 t424 _ ?side1 ?side2 A66.out).mono ?_))); (case side1 => repeat (first | exact (Kd.C_below HR1.out HB.out) | (with_reducible refine Kd.C_alloc ?_ _) | (with_reducible refine Kd.C_drewN ?_ _) | (with_reducible refine Kd.C_drew ?_))); (case side2 => exact HC1.out); rintro e w79 ⟨v425, v427, rfl, ho0, ho1, hb⟩; have n0_ := Aside0.mk (Kd.R_lower ho0 (below_size (by repeat (first | (with_reducible first | exact HB.out | apply below_alloc | apply pw_below_drewN | apply below_drew1) | exact HB.out)))); have n1_ := Aside0.mk (Kd.R_lower ho1 (below_size (by repeat (first | (with_reducible first | exact HB.out | apply below_alloc | apply pw_below_drewN | apply below_drew1) | exact HB.out)))); have n2_ := Aside0.mk (below_step (by repeat (first | (with_reducible first | exact HB.out | apply below_alloc | apply pw_below_drewN | apply below_drew1) | exact HB.out)) hb); clear HB; have HO426 := n0_; have HO428 := n1_; have HB := n2_; clear n0_ n1_ n2_; (try clear hb); (try clear hb2); (try clear hk); (try clear hi); (try clear ho0); (try clear ho1); obtain ⟨Ao80, co80, eo80⟩ := Kd.R_slice HO426.out; subst eo80; obtain ⟨Ao81, co81, eo81⟩ := Kd.R_slice HO428.out; subst eo81) | (go_at_call 32; (first | (with_reducible refine (impl_FewestGangs.calls kj9 _ _ t422 _ _ t423 t424 t429 t430 _ ?side1 ?side2 ?side3 ?side4 A67.out).mono ?_) | ((try simp only [Go.IntWalk.i64_left]); (with_reducible refine (impl_FewestGangs.calls kj9 _ _ t422 _ _ t423 t424 t429 t430 _ ?side1 ?side2 ?side3 ?side4 A67.out).mono ?_))); (case side1 => repeat (first | exact (Kd.R_reads' HO426.out).2.2 | (with_reducible refine Kd.C_alloc ?_ _) | (with_reducible refine Kd.C_drewN ?_ _) | (with_reducible refine Kd.C_drew ?_))); (case side2 => exact (Kd.R_reads' HO426.out).2.1); (case side3 => repeat (first | exact (Kd.R_reads' HO428.out).2.2 | (with_reducible refine Kd.C_alloc ?_ _) | (with_reducible refine Kd.C_drewN ?_ _) | (with_reducible refine Kd.C_drew ?_))); (case side4 => exact (Kd.R_reads' HO428.out).2.1); rintro e w82 ⟨rfl, hb⟩; have n0_ := Aside0.mk (Kd.R_below (by (with_reducible repeat (first | apply Kd.R_alloc | apply Kd.R_drewN | apply Kd.R_drew)); exact HO426.out) hb); have n1_ := Aside0.mk (Kd.R_below (by (with_reducible repeat (first | apply Kd.R_alloc | apply Kd.R_drewN | apply Kd.R_drew)); exact HO428.out) hb); have n2_ := Aside0.mk (below_step (by repeat (first | (with_reducible first | exact HB.out | apply below_alloc | apply pw_below_drewN | apply below_drew1) | exact HB.out)) hb); clear HO426; clear HO428; clear HB; have HO426 := n0_; have HO428 := n1_; have HB := n2_; clear n0_ n1_ n2_; (try clear hb); (try clear hb2); (try clear hk); (try clear hi)) | (go_at_call 23; (first | (with_reducible refine (impl_LatestEnd.calls kj9 _ _ t422 _ _ t423 t429 t431 t432 _ ?side1 ?side2 ?side3 ?side4 A69.out).mono ?_) | ((try simp only [Go.IntWalk.i64_left]); (with_reducible refine (impl_LatestEnd.calls kj9 _ _ t422 _ _ t423 t429 t431 t432 _ ?side1 ?side2 ?side3 ?side4 A69.out).mono ?_))); (case side1 => repeat (first | exact (Kd.R_reads' HO426.out).2.2 | (with_reducible refine Kd.C_alloc ?_ _) | (with_reducible refine Kd.C_drewN ?_ _) | (with_reducible refine Kd.C_drew ?_))); (case side2 => exact (Kd.R_reads' HO426.out).2.1); (case side3 => repeat (first | exact (Kd.R_reads' HO428.out).2.2 | (with_reducible refine Kd.C_alloc ?_ _) | (with_reducible refine Kd.C_drewN ?_ _) | (with_reducible refine Kd.C_drew ?_))); (case side4 => exact (Kd.R_reads' HO428.out).2.1); rintro e w83 ⟨rfl, hb⟩; have n0_ := Aside0.mk (Kd.R_below (by (with_reducible repeat (first | apply Kd.R_alloc | apply Kd.R_drewN | apply Kd.R_drew)); exact HO426.out) hb); have n1_ := Aside0.mk (Kd.R_below (by (with_reducible repeat (first | apply Kd.R_alloc | apply Kd.R_drewN | apply Kd.R_drew)); exact HO428.out) hb); have n2_ := Aside0.mk (below_step (by repeat (first | (with_reducible first | exact HB.out | apply below_alloc | apply pw_below_drewN | apply below_drew1) | exact HB.out)) hb); clear HO426; clear HO428; clear HB; have HO426 := n0_; have HO428 := n1_; have HB := n2_; clear n0_ n1_ n2_; (try clear hb); (try clear hb2); (try clear hk); (try clear hi)) | (go_at_call 23; (first | (with_reducible refine (impl_LatestEnd.calls kj9 _ _ t422 _ _ t423 (wrap64 (t429 - 1)) t433 t434 _ ?side1 ?side2 ?side3 ?side4 A77.out).mono ?_) | ((try simp only [Go.IntWalk.i64_left]); (with_reducible refine (impl_LatestEnd.calls kj9 _ _ t422 _ _ t423 (wrap64 (t429 - 1)) t433 t434 _ ?side1 ?side2 ?side3 ?side4 A77.out).mono ?_))); (case side1 => repeat (first | exact (Kd.R_reads' HO426.out).2.2 | (with_reducible refine Kd.C_alloc ?_ _) | (with_reducible refine Kd.C_drewN ?_ _) | (with_reducible refine Kd.C_drew ?_))); (case side2 => exact (Kd.R_reads' HO426.out).2.1); (case side3 => repeat (first | exact (Kd.R_reads' HO428.out).2.2 | (with_reducible refine Kd.C_alloc ?_ _) | (with_reducible refine Kd.C_drewN ?_ _) | (with_reducible refine Kd.C_drew ?_))); (case side4 => exact (Kd.R_reads' HO428.out).2.1); rintro e w84 ⟨rfl, hb⟩; have n0_ := Aside0.mk (Kd.R_below (by (with_reducible repeat (first | apply Kd.R_alloc | apply Kd.R_drewN | apply Kd.R_drew)); exact HO426.out) hb); have n1_ := Aside0.mk (Kd.R_below (by (with_reducible repeat (first | apply Kd.R_alloc | apply Kd.R_drewN | apply Kd.R_drew)); exact HO428.out) hb); have n2_ := Aside0.mk (below_step (by repeat (first | (with_reducible first | exact HB.out | apply below_alloc | apply pw_below_drewN | apply below_drew1) | exact HB.out)) hb); clear HO426; clear HO428; clear HB; have HO426 := n0_; have HO428 := n1_; have HB := n2_; clear n0_ n1_ n2_; (try clear hb); (try clear hb2); (try clear hk); (try clear hi)))
          repeat (go_quiet (first | (go_at_call 40; (first | (with_reducible refine (spec_DrawFewestGangs.calls kj9 _ _ l1 t422 t423 t424 _ ?side1 ?side2 A66.out).mono ?_) | ((try simp only [Go.IntWalk.i64_left]); (with_reducible refine (spec_DrawFewestGangs.calls kj9 _ _ l1 t422 t423 t424 _ ?side1 ?side2 A66.out).mono ?_))); (case side1 => repeat (first | exact (Kd.C_below HR1.out HB.out) | (with_reducible refine Kd.C_alloc ?_ _) | (with_reducible refine Kd.C_drewN ?_ _) | (with_reducible refine Kd.C_drew ?_))); (case side2 => exact HC1.out); rintro e w79 ⟨v425, v427, rfl, ho0, ho1, hb⟩; have n0_ := Aside0.mk (Kd.R_lower ho0 (below_size (by repeat (first | (with_reducible first | exact HB.out | apply below_alloc | apply pw_below_drewN | apply below_drew1) | exact HB.out)))); have n1_ := Aside0.mk (Kd.R_lower ho1 (below_size (by repeat (first | (with_reducible first | exact HB.out | apply below_alloc | apply pw_below_drewN | apply below_drew1) | exact HB.out)))); have n2_ := Aside0.mk (below_step (by repeat (first | (with_reducible first | exact HB.out | apply below_alloc | apply pw_below_drewN | apply below_drew1) | exact HB.out)) hb); clear HB; have HO426 := n0_; have HO428 := n1_; have HB := n2_; clear n0_ n1_ n2_; (try clear hb); (try clear hb2); (try clear hk); (try clear hi); (try clear ho0); (try clear ho1); obtain ⟨Ao80, co80, eo80⟩ := Kd.R_slice HO426.out; subst eo80; obtain ⟨Ao81, co81, eo81⟩ := Kd.R_slice HO428.out; subst eo81) | (go_at_call 32; (first | (with_reducible refine (impl_FewestGangs.calls kj9 _ _ t422 _ _ t423 t424 t429 t430 _ ?side1 ?side2 ?side3 ?side4 A67.out).mono ?_) | ((try simp only [Go.IntWalk.i64_left]); (with_reducible refine (impl_FewestGangs.calls kj9 _ _ t422 _ _ t423 t424 t429 t430 _ ?side1 ?side2 ?side3 ?side4 A67.out).mono ?_))); (case side1 => repeat (first | exact (Kd.R_reads' HO426.out).2.2 | (with_reducible refine Kd.C_alloc ?_ _) | (with_reducible refine Kd.C_drewN ?_ _) | (with_reducible refine Kd.C_drew ?_))); (case side2 => exact (Kd.R_reads' HO426.out).2.1); (case side3 => repeat (first | exact (Kd.R_reads' HO428.out).2.2 | (with_reducible refine Kd.C_alloc ?_ _) | (with_reducible refine Kd.C_drewN ?_ _) | (with_reducible refine Kd.C_drew ?_))); (case side4 => exact (Kd.R_reads' HO428.out).2.1); rintro e w82 ⟨rfl, hb⟩; have n0_ := Aside0.mk (Kd.R_below (by (with_reducible repeat (first | apply Kd.R_alloc | apply Kd.R_drewN | apply Kd.R_drew)); exact HO426.out) hb); have n1_ := Aside0.mk (Kd.R_below (by (with_reducible repeat (first | apply Kd.R_alloc | apply Kd.R_drewN | apply Kd.R_drew)); exact HO428.out) hb); have n2_ := Aside0.mk (below_step (by repeat (first | (with_reducible first | exact HB.out | apply below_alloc | apply pw_below_drewN | apply below_drew1) | exact HB.out)) hb); clear HO426; clear HO428; clear HB; have HO426 := n0_; have HO428 := n1_; have HB := n2_; clear n0_ n1_ n2_; (try clear hb); (try clear hb2); (try clear hk); (try clear hi)) | (go_at_call 23; (first | (with_reducible refine (impl_LatestEnd.calls kj9 _ _ t422 _ _ t423 t429 t431 t432 _ ?side1 ?side2 ?side3 ?side4 A69.out).mono ?_) | ((try simp only [Go.IntWalk.i64_left]); (with_reducible refine (impl_LatestEnd.calls kj9 _ _ t422 _ _ t423 t429 t431 t432 _ ?side1 ?side2 ?side3 ?side4 A69.out).mono ?_))); (case side1 => repeat (first | exact (Kd.R_reads' HO426.out).2.2 | (with_reducible refine Kd.C_alloc ?_ _) | (with_reducible refine Kd.C_drewN ?_ _) | (with_reducible refine Kd.C_drew ?_))); (case side2 => exact (Kd.R_reads' HO426.out).2.1); (case side3 => repeat (first | exact (Kd.R_reads' HO428.out).2.2 | (with_reducible refine Kd.C_alloc ?_ _) | (with_reducible refine Kd.C_drewN ?_ _) | (with_reducible refine Kd.C_drew ?_))); (case side4 => exact (Kd.R_reads' HO428.out).2.1); rintro e w83 ⟨rfl, hb⟩; have n0_ := Aside0.mk (Kd.R_below (by (with_reducible repeat (first | apply Kd.R_alloc | apply Kd.R_drewN | apply Kd.R_drew)); exact HO426.out) hb); have n1_ := Aside0.mk (Kd.R_below (by (with_reducible repeat (first | apply Kd.R_alloc | apply Kd.R_drewN | apply Kd.R_drew)); exact HO428.out) hb); have n2_ := Aside0.mk (below_step (by repeat (first | (with_reducible first | exact HB.out | apply below_alloc | apply pw_below_drewN | apply below_drew1) | exact HB.out)) hb); clear HO426; clear HO428; clear HB; have HO426 := n0_; have HO428 := n1_; have HB := n2_; clear n0_ n1_ n2_; (try clear hb); (try clear hb2); (try clear hk); (try clear hi)) | (go_at_call 23; (first | (with_reducible refine (impl_LatestEnd.calls kj9 _ _ t422 _ _ t423 (wrap64 (t429 - 1)) t433 t434 _ ?side1 ?side2 ?side3 ?side4 A77.out).mono ?_) | ((try simp only [Go.IntWalk.i64_left]); (with_reducible refine (impl_LatestEnd.calls kj9 _ _ t422 _ _ t423 (wrap64 (t429 - 1)) t433 t434 _ ?side1 ?side2 ?side3 ?side4 A77.out).mono ?_))); (case side1 => repeat (first | exact (Kd.R_reads' HO426.out).2.2 | (with_reducible refine Kd.C_alloc ?_ _) | (with_reducible refine Kd.C_drewN ?_ _) | (with_reducible refine Kd.C_drew ?_))); (case side2 => exact (Kd.R_reads' HO426.out).2.1); (case side3 => repeat (first | exact (Kd.R_reads' HO428.out).2.2 | (with_reducible refine Kd.C_alloc ?_ _) | (with_reducible refine Kd.C_drewN ?_ _) | (with_reducible refine Kd.C_drew ?_))); (case side4 => exact (Kd.R_reads' HO428.out).2.1); rintro e w84 ⟨rfl, hb⟩; have n0_ := Aside0.mk (Kd.R_below (by (with_reducible repeat (first | apply Kd.R_alloc | apply Kd.R_drewN | apply Kd.R_drew)); exact HO426.out) hb); have n1_ := Aside0.mk (Kd.R_below (by (with_reducible repeat (first | apply Kd.R_alloc | apply Kd.R_drewN | apply Kd.R_drew)); exact HO428.out) hb); have n2_ := Aside0.mk (below_step (by repeat (first | (with_reducible first | exact HB.out | apply below_alloc | apply pw_below_drewN | apply below_drew1) | exact HB.out)) hb); clear HO426; clear HO428; clear HB; have HO426 := n0_; have HO428 := n1_; have HB := n2_; clear n0_ n1_ n2_; (try clear hb); (try clear hb2); (try clear hk); (try clear hi))); try go_wp2_with (first | (go_at_call 40; (first | (with_reducible refine (spec_DrawFewestGangs.calls kj9 _ _ l1 t422 t423 t424 _ ?side1 ?side2 A66.out).mono ?_) | ((try simp only [Go.IntWalk.i64_left]); (with_reducible refine (spec_DrawFewestGangs.calls kj9 _ _ l1 t422 t423 t424 _ ?side1 ?side2 A66.out).mono ?_))); (case side1 => repeat (first | exact (Kd.C_below HR1.out HB.out) | (with_reducible refine Kd.C_alloc ?_ _) | (with_reducible refine Kd.C_drewN ?_ _) | (with_reducible refine Kd.C_drew ?_))); (case side2 => exact HC1.out); rintro e w79 ⟨v425, v427, rfl, ho0, ho1, hb⟩; have n0_ := Aside0.mk (Kd.R_lower ho0 (below_size (by repeat (first | (with_reducible first | exact HB.out | apply below_alloc | apply pw_below_drewN | apply below_drew1) | exact HB.out)))); have n1_ := Aside0.mk (Kd.R_lower ho1 (below_size (by repeat (first | (with_reducible first | exact HB.out | apply below_alloc | apply pw_below_drewN | apply below_drew1) | exact HB.out)))); have n2_ := Aside0.mk (below_step (by repeat (first | (with_reducible first | exact HB.out | apply below_alloc | apply pw_below_drewN | apply below_drew1) | exact HB.out)) hb); clear HB; have HO426 := n0_; have HO428 := n1_; have HB := n2_; clear n0_ n1_ n2_; (try clear hb); (try clear hb2); (try clear hk); (try clear hi); (try clear ho0); (try clear ho1); obtain ⟨Ao80, co80, eo80⟩ := Kd.R_slice HO426.out; subst eo80; obtain ⟨Ao81, co81, eo81⟩ := Kd.R_slice HO428.out; subst eo81) | (go_at_call 32; (first | (with_reducible refine (impl_FewestGangs.calls kj9 _ _ t422 _ _ t423 t424 t429 t430 _ ?side1 ?side2 ?side3 ?side4 A67.out).mono ?_) | ((try simp only [Go.IntWalk.i64_left]); (with_reducible refine (impl_FewestGangs.calls kj9 _ _ t422 _ _ t423 t424 t429 t430 _ ?side1 ?side2 ?side3 ?side4 A67.out).mono ?_))); (case side1 => repeat (first | exact (Kd.R_reads' HO426.out).2.2 | (with_reducible refine Kd.C_alloc ?_ _) | (with_reducible refine Kd.C_drewN ?_ _) | (with_reducible refine Kd.C_drew ?_))); (case side2 => exact (Kd.R_reads' HO426.out).2.1); (case side3 => repeat (first | exact (Kd.R_reads' HO428.out).2.2 | (with_reducible refine Kd.C_alloc ?_ _) | (with_reducible refine Kd.C_drewN ?_ _) | (with_reducible refine Kd.C_drew ?_))); (case side4 => exact (Kd.R_reads' HO428.out).2.1); rintro e w82 ⟨rfl, hb⟩; have n0_ := Aside0.mk (Kd.R_below (by (with_reducible repeat (first | apply Kd.R_alloc | apply Kd.R_drewN | apply Kd.R_drew)); exact HO426.out) hb); have n1_ := Aside0.mk (Kd.R_below (by (with_reducible repeat (first | apply Kd.R_alloc | apply Kd.R_drewN | apply Kd.R_drew)); exact HO428.out) hb); have n2_ := Aside0.mk (below_step (by repeat (first | (with_reducible first | exact HB.out | apply below_alloc | apply pw_below_drewN | apply below_drew1) | exact HB.out)) hb); clear HO426; clear HO428; clear HB; have HO426 := n0_; have HO428 := n1_; have HB := n2_; clear n0_ n1_ n2_; (try clear hb); (try clear hb2); (try clear hk); (try clear hi)) | (go_at_call 23; (first | (with_reducible refine (impl_LatestEnd.calls kj9 _ _ t422 _ _ t423 t429 t431 t432 _ ?side1 ?side2 ?side3 ?side4 A69.out).mono ?_) | ((try simp only [Go.IntWalk.i64_left]); (with_reducible refine (impl_LatestEnd.calls kj9 _ _ t422 _ _ t423 t429 t431 t432 _ ?side1 ?side2 ?side3 ?side4 A69.out).mono ?_))); (case side1 => repeat (first | exact (Kd.R_reads' HO426.out).2.2 | (with_reducible refine Kd.C_alloc ?_ _) | (with_reducible refine Kd.C_drewN ?_ _) | (with_reducible refine Kd.C_drew ?_))); (case side2 => exact (Kd.R_reads' HO426.out).2.1); (case side3 => repeat (first | exact (Kd.R_reads' HO428.out).2.2 | (with_reducible refine Kd.C_alloc ?_ _) | (with_reducible refine Kd.C_drewN ?_ _) | (with_reducible refine Kd.C_drew ?_))); (case side4 => exact (Kd.R_reads' HO428.out).2.1); rintro e w83 ⟨rfl, hb⟩; have n0_ := Aside0.mk (Kd.R_below (by (with_reducible repeat (first | apply Kd.R_alloc | apply Kd.R_drewN | apply Kd.R_drew)); exact HO426.out) hb); have n1_ := Aside0.mk (Kd.R_below (by (with_reducible repeat (first | apply Kd.R_alloc | apply Kd.R_drewN | apply Kd.R_drew)); exact HO428.out) hb); have n2_ := Aside0.mk (below_step (by repeat (first | (with_reducible first | exact HB.out | apply below_alloc | apply pw_below_drewN | apply below_drew1) | exact HB.out)) hb); clear HO426; clear HO428; clear HB; have HO426 := n0_; have HO428 := n1_; have HB := n2_; clear n0_ n1_ n2_; (try clear hb); (try clear hb2); (try clear hk); (try clear hi)) | (go_at_call 23; (first | (with_reducible refine (impl_LatestEnd.calls kj9 _ _ t422 _ _ t423 (wrap64 (t429 - 1)) t433 t434 _ ?side1 ?side2 ?side3 ?side4 A77.out).mono ?_) | ((try simp only [Go.IntWalk.i64_left]); (with_reducible refine (impl_LatestEnd.calls kj9 _ _ t422 _ _ t423 (wrap64 (t429 - 1)) t433 t434 _ ?side1 ?side2 ?side3 ?side4 A77.out).mono ?_))); (case side1 => repeat (first | exact (Kd.R_reads' HO426.out).2.2 | (with_reducible refine Kd.C_alloc ?_ _) | (with_reducible refine Kd.C_drewN ?_ _) | (with_reducible refine Kd.C_drew ?_))); (case side2 => exact (Kd.R_reads' HO426.out).2.1); (case side3 => repeat (first | exact (Kd.R_reads' HO428.out).2.2 | (with_reducible refine Kd.C_alloc ?_ _) | (with_reducible refine Kd.C_drewN ?_ _) | (with_reducible refine Kd.C_drew ?_))); (case side4 => exact (Kd.R_reads' HO428.out).2.1); rintro e w84 ⟨rfl, hb⟩; have n0_ := Aside0.mk (Kd.R_below (by (with_reducible repeat (first | apply Kd.R_alloc | apply Kd.R_drewN | apply Kd.R_drew)); exact HO426.out) hb); have n1_ := Aside0.mk (Kd.R_below (by (with_reducible repeat (first | apply Kd.R_alloc | apply Kd.R_drewN | apply Kd.R_drew)); exact HO428.out) hb); have n2_ := Aside0.mk (below_step (by repeat (first | (with_reducible first | exact HB.out | apply below_alloc | apply pw_below_drewN | apply below_drew1) | exact HB.out)) hb); clear HO426; clear HO428; clear HB; have HO426 := n0_; have HO428 := n1_; have HB := n2_; clear n0_ n1_ n2_; (try clear hb); (try clear hb2); (try clear hk); (try clear hi))))
          go_ret
          exact ⟨by first | rfl | (simp [errW_none, errW_some] <;> rfl) | (simp [*, errW_none, errW_some] <;> rfl), by repeat (first | (with_reducible first | exact HB.out | apply below_alloc | apply pw_below_drewN | apply below_drew1) | exact HB.out)⟩
         ·rw [if_neg c78] at H
          have c78b0 : (t434 == 0) = false := beq_eq_false_iff_ne.mpr c78
          have c78b1 : (t434 != 0) = true := bne_iff_ne.mpr c78
          obtain rfl := Option.some.inj H
          go_wp2_with (first | (go_at_call 40; (first | (with_reducible refine (spec_DrawFewestGangs.calls kj9 _ _ l1 t422 t423 t424 _ ?side1 ?side2 A66.out).mono ?_) | ((try simp only [Go.IntWalk.i64_left]); (with_reducible refine (spec_DrawFewestGangs.calls kj9 _ _ l1 t422 t423 t424 _ ?side1 ?side2 A66.out).mono ?_))); (case side1 => repeat (first | exact (Kd.C_below HR1.out HB.out) | (with_reducible refine Kd.C_alloc ?_ _) | (with_reducible refine Kd.C_drewN ?_ _) | (with_reducible refine Kd.C_drew ?_))); (case side2 => exact HC1.out); rintro e w85 ⟨v425, v427, rfl, ho0, ho1, hb⟩; have n0_ := Aside0.mk (Kd.R_lower ho0 (below_size (by repeat (first | (with_reducible first | exact HB.out | apply below_alloc | apply pw_below_drewN | apply below_drew1) | exact HB.out)))); have n1_ := Aside0.mk (Kd.R_lower ho1 (below_size (by repeat (first | (with_reducible first | exact HB.out | apply below_alloc | apply pw_below_drewN | apply below_drew1) | exact HB.out)))); have n2_ := Aside0.mk (below_step (by repeat (first | (with_reducible first | exact HB.out | apply below_alloc | apply pw_below_drewN | apply below_drew1) | exact HB.out)) hb); clear HB; have HO426 := n0_; have HO428 := n1_; have HB := n2_; clear n0_ n1_ n2_; (try clear hb); (try clear hb2); (try clear hk); (try clear hi); (try clear ho0); (try clear ho1); obtain ⟨Ao86, co86, eo86⟩ := Kd.R_slice HO426.out; subst eo86; obtain ⟨Ao87, co87, eo87⟩ := Kd.R_slice HO428.out; subst eo87) | (go_at_call 32; (first | (with_reducible refine (impl_FewestGangs.calls kj9 _ _ t422 _ _ t423 t424 t429 t430 _ ?side1 ?side2 ?side3 ?side4 A67.out).mono ?_) | ((try simp only [Go.IntWalk.i64_left]); (with_reducible refine (impl_FewestGangs.calls kj9 _ _ t422 _ _ t423 t424 t429 t430 _ ?side1 ?side2 ?side3 ?side4 A67.out).mono ?_))); (case side1 => repeat (first | exact (Kd.R_reads' HO426.out).2.2 | (with_reducible refine Kd.C_alloc ?_ _) | (with_reducible refine Kd.C_drewN ?_ _) | (with_reducible refine Kd.C_drew ?_))); (case side2 => exact (Kd.R_reads' HO426.out).2.1); (case side3 => repeat (first | exact (Kd.R_reads' HO428.out).2.2 | (with_reducible refine Kd.C_alloc ?_ _) | (with_reducible refine Kd.C_drewN ?_ _) | (with_reducible refine Kd.C_drew ?_))); (case side4 => exact (Kd.R_reads' HO428.out).2.1); rintro e w88 ⟨rfl, hb⟩; have n0_ := Aside0.mk (Kd.R_below (by (with_reducible repeat (first | apply Kd.R_alloc | apply Kd.R_drewN | apply Kd.R_drew)); exact HO426.out) hb); have n1_ := Aside0.mk (Kd.R_below (by (with_reducible repeat (first | apply Kd.R_alloc | apply Kd.R_drewN | apply Kd.R_drew)); exact HO428.out) hb); have n2_ := Aside0.mk (below_step (by repeat (first | (with_reducible first | exact HB.out | apply below_alloc | apply pw_below_drewN | apply below_drew1) | exact HB.out)) hb); clear HO426; clear HO428; clear HB; have HO426 := n0_; have HO428 := n1_; have HB := n2_; clear n0_ n1_ n2_; (try clear hb); (try clear hb2); (try clear hk); (try clear hi)) | (go_at_call 23; (first | (with_reducible refine (impl_LatestEnd.calls kj9 _ _ t422 _ _ t423 t429 t431 t432 _ ?side1 ?side2 ?side3 ?side4 A69.out).mono ?_) | ((try simp only [Go.IntWalk.i64_left]); (with_reducible refine (impl_LatestEnd.calls kj9 _ _ t422 _ _ t423 t429 t431 t432 _ ?side1 ?side2 ?side3 ?side4 A69.out).mono ?_))); (case side1 => repeat (first | exact (Kd.R_reads' HO426.out).2.2 | (with_reducible refine Kd.C_alloc ?_ _) | (with_reducible refine Kd.C_drewN ?_ _) | (with_reducible refine Kd.C_drew ?_))); (case side2 => exact (Kd.R_reads' HO426.out).2.1); (case side3 => repeat (first | exact (Kd.R_reads' HO428.out).2.2 | (with_reducible refine Kd.C_alloc ?_ _) | (with_reducible refine Kd.C_drewN ?_ _) | (with_reducible refine Kd.C_drew ?_))); (case side4 => exact (Kd.R_reads' HO428.out).2.1); rintro e w89 ⟨rfl, hb⟩; have n0_ := Aside0.mk (Kd.R_below (by (with_reducible repeat (first | apply Kd.R_alloc | apply Kd.R_drewN | apply Kd.R_drew)); exact HO426.out) hb); have n1_ := Aside0.mk (Kd.R_below (by (with_reducible repeat (first | apply Kd.R_alloc | apply Kd.R_drewN | apply Kd.R_drew)); exact HO428.out) hb); have n2_ := Aside0.mk (below_step (by repeat (first | (with_reducible first | exact HB.out | apply below_alloc | apply pw_below_drewN | apply below_drew1) | exact HB.out)) hb); clear HO426; clear HO428; clear HB; have HO426 := n0_; have HO428 := n1_; have HB := n2_; clear n0_ n1_ n2_; (try clear hb); (try clear hb2); (try clear hk); (try clear hi)) | (go_at_call 23; (first | (with_reducible refine (impl_LatestEnd.calls kj9 _ _ t422 _ _ t423 (wrap64 (t429 - 1)) t433 t434 _ ?side1 ?side2 ?side3 ?side4 A77.out).mono ?_) | ((try simp only [Go.IntWalk.i64_left]); (with_reducible refine (impl_LatestEnd.calls kj9 _ _ t422 _ _ t423 (wrap64 (t429 - 1)) t433 t434 _ ?side1 ?side2 ?side3 ?side4 A77.out).mono ?_))); (case side1 => repeat (first | exact (Kd.R_reads' HO426.out).2.2 | (with_reducible refine Kd.C_alloc ?_ _) | (with_reducible refine Kd.C_drewN ?_ _) | (with_reducible refine Kd.C_drew ?_))); (case side2 => exact (Kd.R_reads' HO426.out).2.1); (case side3 => repeat (first | exact (Kd.R_reads' HO428.out).2.2 | (with_reducible refine Kd.C_alloc ?_ _) | (with_reducible refine Kd.C_drewN ?_ _) | (with_reducible refine Kd.C_drew ?_))); (case side4 => exact (Kd.R_reads' HO428.out).2.1); rintro e w90 ⟨rfl, hb⟩; have n0_ := Aside0.mk (Kd.R_below (by (with_reducible repeat (first | apply Kd.R_alloc | apply Kd.R_drewN | apply Kd.R_drew)); exact HO426.out) hb); have n1_ := Aside0.mk (Kd.R_below (by (with_reducible repeat (first | apply Kd.R_alloc | apply Kd.R_drewN | apply Kd.R_drew)); exact HO428.out) hb); have n2_ := Aside0.mk (below_step (by repeat (first | (with_reducible first | exact HB.out | apply below_alloc | apply pw_below_drewN | apply below_drew1) | exact HB.out)) hb); clear HO426; clear HO428; clear HB; have HO426 := n0_; have HO428 := n1_; have HB := n2_; clear n0_ n1_ n2_; (try clear hb); (try clear hb2); (try clear hk); (try clear hi)))
          repeat (go_quiet (first | (go_at_call 40; (first | (with_reducible refine (spec_DrawFewestGangs.calls kj9 _ _ l1 t422 t423 t424 _ ?side1 ?side2 A66.out).mono ?_) | ((try simp only [Go.IntWalk.i64_left]); (with_reducible refine (spec_DrawFewestGangs.calls kj9 _ _ l1 t422 t423 t424 _ ?side1 ?side2 A66.out).mono ?_))); (case side1 => repeat (first | exact (Kd.C_below HR1.out HB.out) | (with_reducible refine Kd.C_alloc ?_ _) | (with_reducible refine Kd.C_drewN ?_ _) | (with_reducible refine Kd.C_drew ?_))); (case side2 => exact HC1.out); rintro e w85 ⟨v425, v427, rfl, ho0, ho1, hb⟩; have n0_ := Aside0.mk (Kd.R_lower ho0 (below_size (by repeat (first | (with_reducible first | exact HB.out | apply below_alloc | apply pw_below_drewN | apply below_drew1) | exact HB.out)))); have n1_ := Aside0.mk (Kd.R_lower ho1 (below_size (by repeat (first | (with_reducible first | exact HB.out | apply below_alloc | apply pw_below_drewN | apply below_drew1) | exact HB.out)))); have n2_ := Aside0.mk (below_step (by repeat (first | (with_reducible first | exact HB.out | apply below_alloc | apply pw_below_drewN | apply below_drew1) | exact HB.out)) hb); clear HB; have HO426 := n0_; have HO428 := n1_; have HB := n2_; clear n0_ n1_ n2_; (try clear hb); (try clear hb2); (try clear hk); (try clear hi); (try clear ho0); (try clear ho1); obtain ⟨Ao86, co86, eo86⟩ := Kd.R_slice HO426.out; subst eo86; obtain ⟨Ao87, co87, eo87⟩ := Kd.R_slice HO428.out; subst eo87) | (go_at_call 32; (first | (with_reducible refine (impl_FewestGangs.calls kj9 _ _ t422 _ _ t423 t424 t429 t430 _ ?side1 ?side2 ?side3 ?side4 A67.out).mono ?_) | ((try simp only [Go.IntWalk.i64_left]); (with_reducible refine (impl_FewestGangs.calls kj9 _ _ t422 _ _ t423 t424 t429 t430 _ ?side1 ?side2 ?side3 ?side4 A67.out).mono ?_))); (case side1 => repeat (first | exact (Kd.R_reads' HO426.out).2.2 | (with_reducible refine Kd.C_alloc ?_ _) | (with_reducible refine Kd.C_drewN ?_ _) | (with_reducible refine Kd.C_drew ?_))); (case side2 => exact (Kd.R_reads' HO426.out).2.1); (case side3 => repeat (first | exact (Kd.R_reads' HO428.out).2.2 | (with_reducible refine Kd.C_alloc ?_ _) | (with_reducible refine Kd.C_drewN ?_ _) | (with_reducible refine Kd.C_drew ?_))); (case side4 => exact (Kd.R_reads' HO428.out).2.1); rintro e w88 ⟨rfl, hb⟩; have n0_ := Aside0.mk (Kd.R_below (by (with_reducible repeat (first | apply Kd.R_alloc | apply Kd.R_drewN | apply Kd.R_drew)); exact HO426.out) hb); have n1_ := Aside0.mk (Kd.R_below (by (with_reducible repeat (first | apply Kd.R_alloc | apply Kd.R_drewN | apply Kd.R_drew)); exact HO428.out) hb); have n2_ := Aside0.mk (below_step (by repeat (first | (with_reducible first | exact HB.out | apply below_alloc | apply pw_below_drewN | apply below_drew1) | exact HB.out)) hb); clear HO426; clear HO428; clear HB; have HO426 := n0_; have HO428 := n1_; have HB := n2_; clear n0_ n1_ n2_; (try clear hb); (try clear hb2); (try clear hk); (try clear hi)) | (go_at_call 23; (first | (with_reducible refine (impl_LatestEnd.calls kj9 _ _ t422 _ _ t423 t429 t431 t432 _ ?side1 ?side2 ?side3 ?side4 A69.out).mono ?_) | ((try simp only [Go.IntWalk.i64_left]); (with_reducible refine (impl_LatestEnd.calls kj9 _ _ t422 _ _ t423 t429 t431 t432 _ ?side1 ?side2 ?side3 ?side4 A69.out).mono ?_))); (case side1 => repeat (first | exact (Kd.R_reads' HO426.out).2.2 | (with_reducible refine Kd.C_alloc ?_ _) | (with_reducible refine Kd.C_drewN ?_ _) | (with_reducible refine Kd.C_drew ?_))); (case side2 => exact (Kd.R_reads' HO426.out).2.1); (case side3 => repeat (first | exact (Kd.R_reads' HO428.out).2.2 | (with_reducible refine Kd.C_alloc ?_ _) | (with_reducible refine Kd.C_drewN ?_ _) | (with_reducible refine Kd.C_drew ?_))); (case side4 => exact (Kd.R_reads' HO428.out).2.1); rintro e w89 ⟨rfl, hb⟩; have n0_ := Aside0.mk (Kd.R_below (by (with_reducible repeat (first | apply Kd.R_alloc | apply Kd.R_drewN | apply Kd.R_drew)); exact HO426.out) hb); have n1_ := Aside0.mk (Kd.R_below (by (with_reducible repeat (first | apply Kd.R_alloc | apply Kd.R_drewN | apply Kd.R_drew)); exact HO428.out) hb); have n2_ := Aside0.mk (below_step (by repeat (first | (with_reducible first | exact HB.out | apply below_alloc | apply pw_below_drewN | apply below_drew1) | exact HB.out)) hb); clear HO426; clear HO428; clear HB; have HO426 := n0_; have HO428 := n1_; have HB := n2_; clear n0_ n1_ n2_; (try clear hb); (try clear hb2); (try clear hk); (try clear hi)) | (go_at_call 23; (first | (with_reducible refine (impl_LatestEnd.calls kj9 _ _ t422 _ _ t423 (wrap64 (t429 - 1)) t433 t434 _ ?side1 ?side2 ?side3 ?side4 A77.out).mono ?_) | ((try simp only [Go.IntWalk.i64_left]); (with_reducible refine (impl_LatestEnd.calls kj9 _ _ t422 _ _ t423 (wrap64 (t429 - 1)) t433 t434 _ ?side1 ?side2 ?side3 ?side4 A77.out).mono ?_))); (case side1 => repeat (first | exact (Kd.R_reads' HO426.out).2.2 | (with_reducible refine Kd.C_alloc ?_ _) | (with_reducible refine Kd.C_drewN ?_ _) | (with_reducible refine Kd.C_drew ?_))); (case side2 => exact (Kd.R_reads' HO426.out).2.1); (case side3 => repeat (first | exact (Kd.R_reads' HO428.out).2.2 | (with_reducible refine Kd.C_alloc ?_ _) | (with_reducible refine Kd.C_drewN ?_ _) | (with_reducible refine Kd.C_drew ?_))); (case side4 => exact (Kd.R_reads' HO428.out).2.1); rintro e w90 ⟨rfl, hb⟩; have n0_ := Aside0.mk (Kd.R_below (by (with_reducible repeat (first | apply Kd.R_alloc | apply Kd.R_drewN | apply Kd.R_drew)); exact HO426.out) hb); have n1_ := Aside0.mk (Kd.R_below (by (with_reducible repeat (first | apply Kd.R_alloc | apply Kd.R_drewN | apply Kd.R_drew)); exact HO428.out) hb); have n2_ := Aside0.mk (below_step (by repeat (first | (with_reducible first | exact HB.out | apply below_alloc | apply pw_below_drewN | apply below_drew1) | exact HB.out)) hb); clear HO426; clear HO428; clear HB; have HO426 := n0_; have HO428 := n1_; have HB := n2_; clear n0_ n1_ n2_; (try clear hb); (try clear hb2); (try clear hk); (try clear hi))); try go_wp2_with (first | (go_at_call 40; (first | (with_reducible refine (spec_DrawFewestGangs.calls kj9 _ _ l1 t422 t423 t424 _ ?side1 ?side2 A66.out).mono ?_) | ((try simp only [Go.IntWalk.i64_left]); (with_reducible refine (spec_DrawFewestGangs.calls kj9 _ _ l1 t422 t423 t424 _ ?side1 ?side2 A66.out).mono ?_))); (case side1 => repeat (first | exact (Kd.C_below HR1.out HB.out) | (with_reducible refine Kd.C_alloc ?_ _) | (with_reducible refine Kd.C_drewN ?_ _) | (with_reducible refine Kd.C_drew ?_))); (case side2 => exact HC1.out); rintro e w85 ⟨v425, v427, rfl, ho0, ho1, hb⟩; have n0_ := Aside0.mk (Kd.R_lower ho0 (below_size (by repeat (first | (with_reducible first | exact HB.out | apply below_alloc | apply pw_below_drewN | apply below_drew1) | exact HB.out)))); have n1_ := Aside0.mk (Kd.R_lower ho1 (below_size (by repeat (first | (with_reducible first | exact HB.out | apply below_alloc | apply pw_below_drewN | apply below_drew1) | exact HB.out)))); have n2_ := Aside0.mk (below_step (by repeat (first | (with_reducible first | exact HB.out | apply below_alloc | apply pw_below_drewN | apply below_drew1) | exact HB.out)) hb); clear HB; have HO426 := n0_; have HO428 := n1_; have HB := n2_; clear n0_ n1_ n2_; (try clear hb); (try clear hb2); (try clear hk); (try clear hi); (try clear ho0); (try clear ho1); obtain ⟨Ao86, co86, eo86⟩ := Kd.R_slice HO426.out; subst eo86; obtain ⟨Ao87, co87, eo87⟩ := Kd.R_slice HO428.out; subst eo87) | (go_at_call 32; (first | (with_reducible refine (impl_FewestGangs.calls kj9 _ _ t422 _ _ t423 t424 t429 t430 _ ?side1 ?side2 ?side3 ?side4 A67.out).mono ?_) | ((try simp only [Go.IntWalk.i64_left]); (with_reducible refine (impl_FewestGangs.calls kj9 _ _ t422 _ _ t423 t424 t429 t430 _ ?side1 ?side2 ?side3 ?side4 A67.out).mono ?_))); (case side1 => repeat (first | exact (Kd.R_reads' HO426.out).2.2 | (with_reducible refine Kd.C_alloc ?_ _) | (with_reducible refine Kd.C_drewN ?_ _) | (with_reducible refine Kd.C_drew ?_))); (case side2 => exact (Kd.R_reads' HO426.out).2.1); (case side3 => repeat (first | exact (Kd.R_reads' HO428.out).2.2 | (with_reducible refine Kd.C_alloc ?_ _) | (with_reducible refine Kd.C_drewN ?_ _) | (with_reducible refine Kd.C_drew ?_))); (case side4 => exact (Kd.R_reads' HO428.out).2.1); rintro e w88 ⟨rfl, hb⟩; have n0_ := Aside0.mk (Kd.R_below (by (with_reducible repeat (first | apply Kd.R_alloc | apply Kd.R_drewN | apply Kd.R_drew)); exact HO426.out) hb); have n1_ := Aside0.mk (Kd.R_below (by (with_reducible repeat (first | apply Kd.R_alloc | apply Kd.R_drewN | apply Kd.R_drew)); exact HO428.out) hb); have n2_ := Aside0.mk (below_step (by repeat (first | (with_reducible first | exact HB.out | apply below_alloc | apply pw_below_drewN | apply below_drew1) | exact HB.out)) hb); clear HO426; clear HO428; clear HB; have HO426 := n0_; have HO428 := n1_; have HB := n2_; clear n0_ n1_ n2_; (try clear hb); (try clear hb2); (try clear hk); (try clear hi)) | (go_at_call 23; (first | (with_reducible refine (impl_LatestEnd.calls kj9 _ _ t422 _ _ t423 t429 t431 t432 _ ?side1 ?side2 ?side3 ?side4 A69.out).mono ?_) | ((try simp only [Go.IntWalk.i64_left]); (with_reducible refine (impl_LatestEnd.calls kj9 _ _ t422 _ _ t423 t429 t431 t432 _ ?side1 ?side2 ?side3 ?side4 A69.out).mono ?_))); (case side1 => repeat (first | exact (Kd.R_reads' HO426.out).2.2 | (with_reducible refine Kd.C_alloc ?_ _) | (with_reducible refine Kd.C_drewN ?_ _) | (with_reducible refine Kd.C_drew ?_))); (case side2 => exact (Kd.R_reads' HO426.out).2.1); (case side3 => repeat (first | exact (Kd.R_reads' HO428.out).2.2 | (with_reducible refine Kd.C_alloc ?_ _) | (with_reducible refine Kd.C_drewN ?_ _) | (with_reducible refine Kd.C_drew ?_))); (case side4 => exact (Kd.R_reads' HO428.out).2.1); rintro e w89 ⟨rfl, hb⟩; have n0_ := Aside0.mk (Kd.R_below (by (with_reducible repeat (first | apply Kd.R_alloc | apply Kd.R_drewN | apply Kd.R_drew)); exact HO426.out) hb); have n1_ := Aside0.mk (Kd.R_below (by (with_reducible repeat (first | apply Kd.R_alloc | apply Kd.R_drewN | apply Kd.R_drew)); exact HO428.out) hb); have n2_ := Aside0.mk (below_step (by repeat (first | (with_reducible first | exact HB.out | apply below_alloc | apply pw_below_drewN | apply below_drew1) | exact HB.out)) hb); clear HO426; clear HO428; clear HB; have HO426 := n0_; have HO428 := n1_; have HB := n2_; clear n0_ n1_ n2_; (try clear hb); (try clear hb2); (try clear hk); (try clear hi)) | (go_at_call 23; (first | (with_reducible refine (impl_LatestEnd.calls kj9 _ _ t422 _ _ t423 (wrap64 (t429 - 1)) t433 t434 _ ?side1 ?side2 ?side3 ?side4 A77.out).mono ?_) | ((try simp only [Go.IntWalk.i64_left]); (with_reducible refine (impl_LatestEnd.calls kj9 _ _ t422 _ _ t423 (wrap64 (t429 - 1)) t433 t434 _ ?side1 ?side2 ?side3 ?side4 A77.out).mono ?_))); (case side1 => repeat (first | exact (Kd.R_reads' HO426.out).2.2 | (with_reducible refine Kd.C_alloc ?_ _) | (with_reducible refine Kd.C_drewN ?_ _) | (with_reducible refine Kd.C_drew ?_))); (case side2 => exact (Kd.R_reads' HO426.out).2.1); (case side3 => repeat (first | exact (Kd.R_reads' HO428.out).2.2 | (with_reducible refine Kd.C_alloc ?_ _) | (with_reducible refine Kd.C_drewN ?_ _) | (with_reducible refine Kd.C_drew ?_))); (case side4 => exact (Kd.R_reads' HO428.out).2.1); rintro e w90 ⟨rfl, hb⟩; have n0_ := Aside0.mk (Kd.R_below (by (with_reducible repeat (first | apply Kd.R_alloc | apply Kd.R_drewN | apply Kd.R_drew)); exact HO426.out) hb); have n1_ := Aside0.mk (Kd.R_below (by (with_reducible repeat (first | apply Kd.R_alloc | apply Kd.R_drewN | apply Kd.R_drew)); exact HO428.out) hb); have n2_ := Aside0.mk (below_step (by repeat (first | (with_reducible first | exact HB.out | apply below_alloc | apply pw_below_drewN | apply below_drew1) | exact HB.out)) hb); clear HO426; clear HO428; clear HB; have HO426 := n0_; have HO428 := n1_; have HB := n2_; clear n0_ n1_ n2_; (try clear hb); (try clear hb2); (try clear hk); (try clear hi))))
          go_ret
          exact ⟨by first | rfl | (simp [errW_none, errW_some] <;> rfl) | (simp [*, errW_none, errW_some] <;> rfl), by repeat (first | (with_reducible first | exact HB.out | apply below_alloc | apply pw_below_drewN | apply below_drew1) | exact HB.out)⟩
       ·rw [if_neg c70] at H
        have c70b0 : (t432 == 0) = false := beq_eq_false_iff_ne.mpr c70
        have c70b1 : (t432 != 0) = true := bne_iff_ne.mpr c70
        obtain rfl := Option.some.inj H
        go_wp2_with (first | (go_at_call 40; (first | (with_reducible refine (spec_DrawFewestGangs.calls kj9 _ _ l1 t422 t423 t424 _ ?side1 ?side2 A66.out).mono ?_) | ((try simp only [Go.IntWalk.i64_left]); (with_reducible refine (spec_DrawFewestGangs.calls kj9 _ _ l1 t422 t423 t424 _ ?side1 ?side2 A66.out).mono ?_))); (case side1 => repeat (first | exact (Kd.C_below HR1.out HB.out) | (with_reducible refine Kd.C_alloc ?_ _) | (with_reducible refine Kd.C_drewN ?_ _) | (with_reducible refine Kd.C_drew ?_))); (case side2 => exact HC1.out); rintro e w91 ⟨v425, v427, rfl, ho0, ho1, hb⟩; have n0_ := Aside0.mk (Kd.R_lower ho0 (below_size (by repeat (first | (with_reducible first | exact HB.out | apply below_alloc | apply pw_below_drewN | apply below_drew1) | exact HB.out)))); have n1_ := Aside0.mk (Kd.R_lower ho1 (below_size (by repeat (first | (with_reducible first | exact HB.out | apply below_alloc | apply pw_below_drewN | apply below_drew1) | exact HB.out)))); have n2_ := Aside0.mk (below_step (by repeat (first | (with_reducible first | exact HB.out | apply below_alloc | apply pw_below_drewN | apply below_drew1) | exact HB.out)) hb); clear HB; have HO426 := n0_; have HO428 := n1_; have HB := n2_; clear n0_ n1_ n2_; (try clear hb); (try clear hb2); (try clear hk); (try clear hi); (try clear ho0); (try clear ho1); obtain ⟨Ao92, co92, eo92⟩ := Kd.R_slice HO426.out; subst eo92; obtain ⟨Ao93, co93, eo93⟩ := Kd.R_slice HO428.out; subst eo93) | (go_at_call 32; (first | (with_reducible refine (impl_FewestGangs.calls kj9 _ _ t422 _ _ t423 t424 t429 t430 _ ?side1 ?side2 ?side3 ?side4 A67.out).mono ?_) | ((try simp only [Go.IntWalk.i64_left]); (with_reducible refine (impl_FewestGangs.calls kj9 _ _ t422 _ _ t423 t424 t429 t430 _ ?side1 ?side2 ?side3 ?side4 A67.out).mono ?_))); (case side1 => repeat (first | exact (Kd.R_reads' HO426.out).2.2 | (with_reducible refine Kd.C_alloc ?_ _) | (with_reducible refine Kd.C_drewN ?_ _) | (with_reducible refine Kd.C_drew ?_))); (case side2 => exact (Kd.R_reads' HO426.out).2.1); (case side3 => repeat (first | exact (Kd.R_reads' HO428.out).2.2 | (with_reducible refine Kd.C_alloc ?_ _) | (with_reducible refine Kd.C_drewN ?_ _) | (with_reducible refine Kd.C_drew ?_))); (case side4 => exact (Kd.R_reads' HO428.out).2.1); rintro e w94 ⟨rfl, hb⟩; have n0_ := Aside0.mk (Kd.R_below (by (with_reducible repeat (first | apply Kd.R_alloc | apply Kd.R_drewN | apply Kd.R_drew)); exact HO426.out) hb); have n1_ := Aside0.mk (Kd.R_below (by (with_reducible repeat (first | apply Kd.R_alloc | apply Kd.R_drewN | apply Kd.R_drew)); exact HO428.out) hb); have n2_ := Aside0.mk (below_step (by repeat (first | (with_reducible first | exact HB.out | apply below_alloc | apply pw_below_drewN | apply below_drew1) | exact HB.out)) hb); clear HO426; clear HO428; clear HB; have HO426 := n0_; have HO428 := n1_; have HB := n2_; clear n0_ n1_ n2_; (try clear hb); (try clear hb2); (try clear hk); (try clear hi)) | (go_at_call 23; (first | (with_reducible refine (impl_LatestEnd.calls kj9 _ _ t422 _ _ t423 t429 t431 t432 _ ?side1 ?side2 ?side3 ?side4 A69.out).mono ?_) | ((try simp only [Go.IntWalk.i64_left]); (with_reducible refine (impl_LatestEnd.calls kj9 _ _ t422 _ _ t423 t429 t431 t432 _ ?side1 ?side2 ?side3 ?side4 A69.out).mono ?_))); (case side1 => repeat (first | exact (Kd.R_reads' HO426.out).2.2 | (with_reducible refine Kd.C_alloc ?_ _) | (with_reducible refine Kd.C_drewN ?_ _) | (with_reducible refine Kd.C_drew ?_))); (case side2 => exact (Kd.R_reads' HO426.out).2.1); (case side3 => repeat (first | exact (Kd.R_reads' HO428.out).2.2 | (with_reducible refine Kd.C_alloc ?_ _) | (with_reducible refine Kd.C_drewN ?_ _) | (with_reducible refine Kd.C_drew ?_))); (case side4 => exact (Kd.R_reads' HO428.out).2.1); rintro e w95 ⟨rfl, hb⟩; have n0_ := Aside0.mk (Kd.R_below (by (with_reducible repeat (first | apply Kd.R_alloc | apply Kd.R_drewN | apply Kd.R_drew)); exact HO426.out) hb); have n1_ := Aside0.mk (Kd.R_below (by (with_reducible repeat (first | apply Kd.R_alloc | apply Kd.R_drewN | apply Kd.R_drew)); exact HO428.out) hb); have n2_ := Aside0.mk (below_step (by repeat (first | (with_reducible first | exact HB.out | apply below_alloc | apply pw_below_drewN | apply below_drew1) | exact HB.out)) hb); clear HO426; clear HO428; clear HB; have HO426 := n0_; have HO428 := n1_; have HB := n2_; clear n0_ n1_ n2_; (try clear hb); (try clear hb2); (try clear hk); (try clear hi)))
        repeat (go_quiet (first | (go_at_call 40; (first | (with_reducible refine (spec_DrawFewestGangs.calls kj9 _ _ l1 t422 t423 t424 _ ?side1 ?side2 A66.out).mono ?_) | ((try simp only [Go.IntWalk.i64_left]); (with_reducible refine (spec_DrawFewestGangs.calls kj9 _ _ l1 t422 t423 t424 _ ?side1 ?side2 A66.out).mono ?_))); (case side1 => repeat (first | exact (Kd.C_below HR1.out HB.out) | (with_reducible refine Kd.C_alloc ?_ _) | (with_reducible refine Kd.C_drewN ?_ _) | (with_reducible refine Kd.C_drew ?_))); (case side2 => exact HC1.out); rintro e w91 ⟨v425, v427, rfl, ho0, ho1, hb⟩; have n0_ := Aside0.mk (Kd.R_lower ho0 (below_size (by repeat (first | (with_reducible first | exact HB.out | apply below_alloc | apply pw_below_drewN | apply below_drew1) | exact HB.out)))); have n1_ := Aside0.mk (Kd.R_lower ho1 (below_size (by repeat (first | (with_reducible first | exact HB.out | apply below_alloc | apply pw_below_drewN | apply below_drew1) | exact HB.out)))); have n2_ := Aside0.mk (below_step (by repeat (first | (with_reducible first | exact HB.out | apply below_alloc | apply pw_below_drewN | apply below_drew1) | exact HB.out)) hb); clear HB; have HO426 := n0_; have HO428 := n1_; have HB := n2_; clear n0_ n1_ n2_; (try clear hb); (try clear hb2); (try clear hk); (try clear hi); (try clear ho0); (try clear ho1); obtain ⟨Ao92, co92, eo92⟩ := Kd.R_slice HO426.out; subst eo92; obtain ⟨Ao93, co93, eo93⟩ := Kd.R_slice HO428.out; subst eo93) | (go_at_call 32; (first | (with_reducible refine (impl_FewestGangs.calls kj9 _ _ t422 _ _ t423 t424 t429 t430 _ ?side1 ?side2 ?side3 ?side4 A67.out).mono ?_) | ((try simp only [Go.IntWalk.i64_left]); (with_reducible refine (impl_FewestGangs.calls kj9 _ _ t422 _ _ t423 t424 t429 t430 _ ?side1 ?side2 ?side3 ?side4 A67.out).mono ?_))); (case side1 => repeat (first | exact (Kd.R_reads' HO426.out).2.2 | (with_reducible refine Kd.C_alloc ?_ _) | (with_reducible refine Kd.C_drewN ?_ _) | (with_reducible refine Kd.C_drew ?_))); (case side2 => exact (Kd.R_reads' HO426.out).2.1); (case side3 => repeat (first | exact (Kd.R_reads' HO428.out).2.2 | (with_reducible refine Kd.C_alloc ?_ _) | (with_reducible refine Kd.C_drewN ?_ _) | (with_reducible refine Kd.C_drew ?_))); (case side4 => exact (Kd.R_reads' HO428.out).2.1); rintro e w94 ⟨rfl, hb⟩; have n0_ := Aside0.mk (Kd.R_below (by (with_reducible repeat (first | apply Kd.R_alloc | apply Kd.R_drewN | apply Kd.R_drew)); exact HO426.out) hb); have n1_ := Aside0.mk (Kd.R_below (by (with_reducible repeat (first | apply Kd.R_alloc | apply Kd.R_drewN | apply Kd.R_drew)); exact HO428.out) hb); have n2_ := Aside0.mk (below_step (by repeat (first | (with_reducible first | exact HB.out | apply below_alloc | apply pw_below_drewN | apply below_drew1) | exact HB.out)) hb); clear HO426; clear HO428; clear HB; have HO426 := n0_; have HO428 := n1_; have HB := n2_; clear n0_ n1_ n2_; (try clear hb); (try clear hb2); (try clear hk); (try clear hi)) | (go_at_call 23; (first | (with_reducible refine (impl_LatestEnd.calls kj9 _ _ t422 _ _ t423 t429 t431 t432 _ ?side1 ?side2 ?side3 ?side4 A69.out).mono ?_) | ((try simp only [Go.IntWalk.i64_left]); (with_reducible refine (impl_LatestEnd.calls kj9 _ _ t422 _ _ t423 t429 t431 t432 _ ?side1 ?side2 ?side3 ?side4 A69.out).mono ?_))); (case side1 => repeat (first | exact (Kd.R_reads' HO426.out).2.2 | (with_reducible refine Kd.C_alloc ?_ _) | (with_reducible refine Kd.C_drewN ?_ _) | (with_reducible refine Kd.C_drew ?_))); (case side2 => exact (Kd.R_reads' HO426.out).2.1); (case side3 => repeat (first | exact (Kd.R_reads' HO428.out).2.2 | (with_reducible refine Kd.C_alloc ?_ _) | (with_reducible refine Kd.C_drewN ?_ _) | (with_reducible refine Kd.C_drew ?_))); (case side4 => exact (Kd.R_reads' HO428.out).2.1); rintro e w95 ⟨rfl, hb⟩; have n0_ := Aside0.mk (Kd.R_below (by (with_reducible repeat (first | apply Kd.R_alloc | apply Kd.R_drewN | apply Kd.R_drew)); exact HO426.out) hb); have n1_ := Aside0.mk (Kd.R_below (by (with_reducible repeat (first | apply Kd.R_alloc | apply Kd.R_drewN | apply Kd.R_drew)); exact HO428.out) hb); have n2_ := Aside0.mk (below_step (by repeat (first | (with_reducible first | exact HB.out | apply below_alloc | apply pw_below_drewN | apply below_drew1) | exact HB.out)) hb); clear HO426; clear HO428; clear HB; have HO426 := n0_; have HO428 := n1_; have HB := n2_; clear n0_ n1_ n2_; (try clear hb); (try clear hb2); (try clear hk); (try clear hi))); try go_wp2_with (first | (go_at_call 40; (first | (with_reducible refine (spec_DrawFewestGangs.calls kj9 _ _ l1 t422 t423 t424 _ ?side1 ?side2 A66.out).mono ?_) | ((try simp only [Go.IntWalk.i64_left]); (with_reducible refine (spec_DrawFewestGangs.calls kj9 _ _ l1 t422 t423 t424 _ ?side1 ?side2 A66.out).mono ?_))); (case side1 => repeat (first | exact (Kd.C_below HR1.out HB.out) | (with_reducible refine Kd.C_alloc ?_ _) | (with_reducible refine Kd.C_drewN ?_ _) | (with_reducible refine Kd.C_drew ?_))); (case side2 => exact HC1.out); rintro e w91 ⟨v425, v427, rfl, ho0, ho1, hb⟩; have n0_ := Aside0.mk (Kd.R_lower ho0 (below_size (by repeat (first | (with_reducible first | exact HB.out | apply below_alloc | apply pw_below_drewN | apply below_drew1) | exact HB.out)))); have n1_ := Aside0.mk (Kd.R_lower ho1 (below_size (by repeat (first | (with_reducible first | exact HB.out | apply below_alloc | apply pw_below_drewN | apply below_drew1) | exact HB.out)))); have n2_ := Aside0.mk (below_step (by repeat (first | (with_reducible first | exact HB.out | apply below_alloc | apply pw_below_drewN | apply below_drew1) | exact HB.out)) hb); clear HB; have HO426 := n0_; have HO428 := n1_; have HB := n2_; clear n0_ n1_ n2_; (try clear hb); (try clear hb2); (try clear hk); (try clear hi); (try clear ho0); (try clear ho1); obtain ⟨Ao92, co92, eo92⟩ := Kd.R_slice HO426.out; subst eo92; obtain ⟨Ao93, co93, eo93⟩ := Kd.R_slice HO428.out; subst eo93) | (go_at_call 32; (first | (with_reducible refine (impl_FewestGangs.calls kj9 _ _ t422 _ _ t423 t424 t429 t430 _ ?side1 ?side2 ?side3 ?side4 A67.out).mono ?_) | ((try simp only [Go.IntWalk.i64_left]); (with_reducible refine (impl_FewestGangs.calls kj9 _ _ t422 _ _ t423 t424 t429 t430 _ ?side1 ?side2 ?side3 ?side4 A67.out).mono ?_))); (case side1 => repeat (first | exact (Kd.R_reads' HO426.out).2.2 | (with_reducible refine Kd.C_alloc ?_ _) | (with_reducible refine Kd.C_drewN ?_ _) | (with_reducible refine Kd.C_drew ?_))); (case side2 => exact (Kd.R_reads' HO426.out).2.1); (case side3 => repeat (first | exact (Kd.R_reads' HO428.out).2.2 | (with_reducible refine Kd.C_alloc ?_ _) | (with_reducible refine Kd.C_drewN ?_ _) | (with_reducible refine Kd.C_drew ?_))); (case side4 => exact (Kd.R_reads' HO428.out).2.1); rintro e w94 ⟨rfl, hb⟩; have n0_ := Aside0.mk (Kd.R_below (by (with_reducible repeat (first | apply Kd.R_alloc | apply Kd.R_drewN | apply Kd.R_drew)); exact HO426.out) hb); have n1_ := Aside0.mk (Kd.R_below (by (with_reducible repeat (first | apply Kd.R_alloc | apply Kd.R_drewN | apply Kd.R_drew)); exact HO428.out) hb); have n2_ := Aside0.mk (below_step (by repeat (first | (with_reducible first | exact HB.out | apply below_alloc | apply pw_below_drewN | apply below_drew1) | exact HB.out)) hb); clear HO426; clear HO428; clear HB; have HO426 := n0_; have HO428 := n1_; have HB := n2_; clear n0_ n1_ n2_; (try clear hb); (try clear hb2); (try clear hk); (try clear hi)) | (go_at_call 23; (first | (with_reducible refine (impl_LatestEnd.calls kj9 _ _ t422 _ _ t423 t429 t431 t432 _ ?side1 ?side2 ?side3 ?side4 A69.out).mono ?_) | ((try simp only [Go.IntWalk.i64_left]); (with_reducible refine (impl_LatestEnd.calls kj9 _ _ t422 _ _ t423 t429 t431 t432 _ ?side1 ?side2 ?side3 ?side4 A69.out).mono ?_))); (case side1 => repeat (first | exact (Kd.R_reads' HO426.out).2.2 | (with_reducible refine Kd.C_alloc ?_ _) | (with_reducible refine Kd.C_drewN ?_ _) | (with_reducible refine Kd.C_drew ?_))); (case side2 => exact (Kd.R_reads' HO426.out).2.1); (case side3 => repeat (first | exact (Kd.R_reads' HO428.out).2.2 | (with_reducible refine Kd.C_alloc ?_ _) | (with_reducible refine Kd.C_drewN ?_ _) | (with_reducible refine Kd.C_drew ?_))); (case side4 => exact (Kd.R_reads' HO428.out).2.1); rintro e w95 ⟨rfl, hb⟩; have n0_ := Aside0.mk (Kd.R_below (by (with_reducible repeat (first | apply Kd.R_alloc | apply Kd.R_drewN | apply Kd.R_drew)); exact HO426.out) hb); have n1_ := Aside0.mk (Kd.R_below (by (with_reducible repeat (first | apply Kd.R_alloc | apply Kd.R_drewN | apply Kd.R_drew)); exact HO428.out) hb); have n2_ := Aside0.mk (below_step (by repeat (first | (with_reducible first | exact HB.out | apply below_alloc | apply pw_below_drewN | apply below_drew1) | exact HB.out)) hb); clear HO426; clear HO428; clear HB; have HO426 := n0_; have HO428 := n1_; have HB := n2_; clear n0_ n1_ n2_; (try clear hb); (try clear hb2); (try clear hk); (try clear hi))))
        go_ret
        exact ⟨by first | rfl | (simp [errW_none, errW_some] <;> rfl) | (simp [*, errW_none, errW_some] <;> rfl), by repeat (first | (with_reducible first | exact HB.out | apply below_alloc | apply pw_below_drewN | apply below_drew1) | exact HB.out)⟩
      ·rw [if_neg c68] at H
       have c68b0 : (t430 == 0) = false := beq_eq_false_iff_ne.mpr c68
       have c68b1 : (t430 != 0) = true := bne_iff_ne.mpr c68
       obtain rfl := Option.some.inj H
       go_wp2_with (first | (go_at_call 40; (first | (with_reducible refine (spec_DrawFewestGangs.calls kj9 _ _ l1 t422 t423 t424 _ ?side1 ?side2 A66.out).mono ?_) | ((try simp only [Go.IntWalk.i64_left]); (with_reducible refine (spec_DrawFewestGangs.calls kj9 _ _ l1 t422 t423 t424 _ ?side1 ?side2 A66.out).mono ?_))); (case side1 => repeat (first | exact (Kd.C_below HR1.out HB.out) | (with_reducible refine Kd.C_alloc ?_ _) | (with_reducible refine Kd.C_drewN ?_ _) | (with_reducible refine Kd.C_drew ?_))); (case side2 => exact HC1.out); rintro e w96 ⟨v425, v427, rfl, ho0, ho1, hb⟩; have n0_ := Aside0.mk (Kd.R_lower ho0 (below_size (by repeat (first | (with_reducible first | exact HB.out | apply below_alloc | apply pw_below_drewN | apply below_drew1) | exact HB.out)))); have n1_ := Aside0.mk (Kd.R_lower ho1 (below_size (by repeat (first | (with_reducible first | exact HB.out | apply below_alloc | apply pw_below_drewN | apply below_drew1) | exact HB.out)))); have n2_ := Aside0.mk (below_step (by repeat (first | (with_reducible first | exact HB.out | apply below_alloc | apply pw_below_drewN | apply below_drew1) | exact HB.out)) hb); clear HB; have HO426 := n0_; have HO428 := n1_; have HB := n2_; clear n0_ n1_ n2_; (try clear hb); (try clear hb2); (try clear hk); (try clear hi); (try clear ho0); (try clear ho1); obtain ⟨Ao97, co97, eo97⟩ := Kd.R_slice HO426.out; subst eo97; obtain ⟨Ao98, co98, eo98⟩ := Kd.R_slice HO428.out; subst eo98) | (go_at_call 32; (first | (with_reducible refine (impl_FewestGangs.calls kj9 _ _ t422 _ _ t423 t424 t429 t430 _ ?side1 ?side2 ?side3 ?side4 A67.out).mono ?_) | ((try simp only [Go.IntWalk.i64_left]); (with_reducible refine (impl_FewestGangs.calls kj9 _ _ t422 _ _ t423 t424 t429 t430 _ ?side1 ?side2 ?side3 ?side4 A67.out).mono ?_))); (case side1 => repeat (first | exact (Kd.R_reads' HO426.out).2.2 | (with_reducible refine Kd.C_alloc ?_ _) | (with_reducible refine Kd.C_drewN ?_ _) | (with_reducible refine Kd.C_drew ?_))); (case side2 => exact (Kd.R_reads' HO426.out).2.1); (case side3 => repeat (first | exact (Kd.R_reads' HO428.out).2.2 | (with_reducible refine Kd.C_alloc ?_ _) | (with_reducible refine Kd.C_drewN ?_ _) | (with_reducible refine Kd.C_drew ?_))); (case side4 => exact (Kd.R_reads' HO428.out).2.1); rintro e w99 ⟨rfl, hb⟩; have n0_ := Aside0.mk (Kd.R_below (by (with_reducible repeat (first | apply Kd.R_alloc | apply Kd.R_drewN | apply Kd.R_drew)); exact HO426.out) hb); have n1_ := Aside0.mk (Kd.R_below (by (with_reducible repeat (first | apply Kd.R_alloc | apply Kd.R_drewN | apply Kd.R_drew)); exact HO428.out) hb); have n2_ := Aside0.mk (below_step (by repeat (first | (with_reducible first | exact HB.out | apply below_alloc | apply pw_below_drewN | apply below_drew1) | exact HB.out)) hb); clear HO426; clear HO428; clear HB; have HO426 := n0_; have HO428 := n1_; have HB := n2_; clear n0_ n1_ n2_; (try clear hb); (try clear hb2); (try clear hk); (try clear hi)))
       repeat (go_quiet (first | (go_at_call 40; (first | (with_reducible refine (spec_DrawFewestGangs.calls kj9 _ _ l1 t422 t423 t424 _ ?side1 ?side2 A66.out).mono ?_) | ((try simp only [Go.IntWalk.i64_left]); (with_reducible refine (spec_DrawFewestGangs.calls kj9 _ _ l1 t422 t423 t424 _ ?side1 ?side2 A66.out).mono ?_))); (case side1 => repeat (first | exact (Kd.C_below HR1.out HB.out) | (with_reducible refine Kd.C_alloc ?_ _) | (with_reducible refine Kd.C_drewN ?_ _) | (with_reducible refine Kd.C_drew ?_))); (case side2 => exact HC1.out); rintro e w96 ⟨v425, v427, rfl, ho0, ho1, hb⟩; have n0_ := Aside0.mk (Kd.R_lower ho0 (below_size (by repeat (first | (with_reducible first | exact HB.out | apply below_alloc | apply pw_below_drewN | apply below_drew1) | exact HB.out)))); have n1_ := Aside0.mk (Kd.R_lower ho1 (below_size (by repeat (first | (with_reducible first | exact HB.out | apply below_alloc | apply pw_below_drewN | apply below_drew1) | exact HB.out)))); have n2_ := Aside0.mk (below_step (by repeat (first | (with_reducible first | exact HB.out | apply below_alloc | apply pw_below_drewN | apply below_drew1) | exact HB.out)) hb); clear HB; have HO426 := n0_; have HO428 := n1_; have HB := n2_; clear n0_ n1_ n2_; (try clear hb); (try clear hb2); (try clear hk); (try clear hi); (try clear ho0); (try clear ho1); obtain ⟨Ao97, co97, eo97⟩ := Kd.R_slice HO426.out; subst eo97; obtain ⟨Ao98, co98, eo98⟩ := Kd.R_slice HO428.out; subst eo98) | (go_at_call 32; (first | (with_reducible refine (impl_FewestGangs.calls kj9 _ _ t422 _ _ t423 t424 t429 t430 _ ?side1 ?side2 ?side3 ?side4 A67.out).mono ?_) | ((try simp only [Go.IntWalk.i64_left]); (with_reducible refine (impl_FewestGangs.calls kj9 _ _ t422 _ _ t423 t424 t429 t430 _ ?side1 ?side2 ?side3 ?side4 A67.out).mono ?_))); (case side1 => repeat (first | exact (Kd.R_reads' HO426.out).2.2 | (with_reducible refine Kd.C_alloc ?_ _) | (with_reducible refine Kd.C_drewN ?_ _) | (with_reducible refine Kd.C_drew ?_))); (case side2 => exact (Kd.R_reads' HO426.out).2.1); (case side3 => repeat (first | exact (Kd.R_reads' HO428.out).2.2 | (with_reducible refine Kd.C_alloc ?_ _) | (with_reducible refine Kd.C_drewN ?_ _) | (with_reducible refine Kd.C_drew ?_))); (case side4 => exact (Kd.R_reads' HO428.out).2.1); rintro e w99 ⟨rfl, hb⟩; have n0_ := Aside0.mk (Kd.R_below (by (with_reducible repeat (first | apply Kd.R_alloc | apply Kd.R_drewN | apply Kd.R_drew)); exact HO426.out) hb); have n1_ := Aside0.mk (Kd.R_below (by (with_reducible repeat (first | apply Kd.R_alloc | apply Kd.R_drewN | apply Kd.R_drew)); exact HO428.out) hb); have n2_ := Aside0.mk (below_step (by repeat (first | (with_reducible first | exact HB.out | apply below_alloc | apply pw_below_drewN | apply below_drew1) | exact HB.out)) hb); clear HO426; clear HO428; clear HB; have HO426 := n0_; have HO428 := n1_; have HB := n2_; clear n0_ n1_ n2_; (try clear hb); (try clear hb2); (try clear hk); (try clear hi))); try go_wp2_with (first | (go_at_call 40; (first | (with_reducible refine (spec_DrawFewestGangs.calls kj9 _ _ l1 t422 t423 t424 _ ?side1 ?side2 A66.out).mono ?_) | ((try simp only [Go.IntWalk.i64_left]); (with_reducible refine (spec_DrawFewestGangs.calls kj9 _ _ l1 t422 t423 t424 _ ?side1 ?side2 A66.out).mono ?_))); (case side1 => repeat (first | exact (Kd.C_below HR1.out HB.out) | (with_reducible refine Kd.C_alloc ?_ _) | (with_reducible refine Kd.C_drewN ?_ _) | (with_reducible refine Kd.C_drew ?_))); (case side2 => exact HC1.out); rintro e w96 ⟨v425, v427, rfl, ho0, ho1, hb⟩; have n0_ := Aside0.mk (Kd.R_lower ho0 (below_size (by repeat (first | (with_reducible first | exact HB.out | apply below_alloc | apply pw_below_drewN | apply below_drew1) | exact HB.out)))); have n1_ := Aside0.mk (Kd.R_lower ho1 (below_size (by repeat (first | (with_reducible first | exact HB.out | apply below_alloc | apply pw_below_drewN | apply below_drew1) | exact HB.out)))); have n2_ := Aside0.mk (below_step (by repeat (first | (with_reducible first | exact HB.out | apply below_alloc | apply pw_below_drewN | apply below_drew1) | exact HB.out)) hb); clear HB; have HO426 := n0_; have HO428 := n1_; have HB := n2_; clear n0_ n1_ n2_; (try clear hb); (try clear hb2); (try clear hk); (try clear hi); (try clear ho0); (try clear ho1); obtain ⟨Ao97, co97, eo97⟩ := Kd.R_slice HO426.out; subst eo97; obtain ⟨Ao98, co98, eo98⟩ := Kd.R_slice HO428.out; subst eo98) | (go_at_call 32; (first | (with_reducible refine (impl_FewestGangs.calls kj9 _ _ t422 _ _ t423 t424 t429 t430 _ ?side1 ?side2 ?side3 ?side4 A67.out).mono ?_) | ((try simp only [Go.IntWalk.i64_left]); (with_reducible refine (impl_FewestGangs.calls kj9 _ _ t422 _ _ t423 t424 t429 t430 _ ?side1 ?side2 ?side3 ?side4 A67.out).mono ?_))); (case side1 => repeat (first | exact (Kd.R_reads' HO426.out).2.2 | (with_reducible refine Kd.C_alloc ?_ _) | (with_reducible refine Kd.C_drewN ?_ _) | (with_reducible refine Kd.C_drew ?_))); (case side2 => exact (Kd.R_reads' HO426.out).2.1); (case side3 => repeat (first | exact (Kd.R_reads' HO428.out).2.2 | (with_reducible refine Kd.C_alloc ?_ _) | (with_reducible refine Kd.C_drewN ?_ _) | (with_reducible refine Kd.C_drew ?_))); (case side4 => exact (Kd.R_reads' HO428.out).2.1); rintro e w99 ⟨rfl, hb⟩; have n0_ := Aside0.mk (Kd.R_below (by (with_reducible repeat (first | apply Kd.R_alloc | apply Kd.R_drewN | apply Kd.R_drew)); exact HO426.out) hb); have n1_ := Aside0.mk (Kd.R_below (by (with_reducible repeat (first | apply Kd.R_alloc | apply Kd.R_drewN | apply Kd.R_drew)); exact HO428.out) hb); have n2_ := Aside0.mk (below_step (by repeat (first | (with_reducible first | exact HB.out | apply below_alloc | apply pw_below_drewN | apply below_drew1) | exact HB.out)) hb); clear HO426; clear HO428; clear HB; have HO426 := n0_; have HO428 := n1_; have HB := n2_; clear n0_ n1_ n2_; (try clear hb); (try clear hb2); (try clear hk); (try clear hi))))
       go_ret
       exact ⟨by first | rfl | (simp [errW_none, errW_some] <;> rfl) | (simp [*, errW_none, errW_some] <;> rfl), by repeat (first | (with_reducible first | exact HB.out | apply below_alloc | apply pw_below_drewN | apply below_drew1) | exact HB.out)⟩

end Go.Proofs.Ytionpndhcijmcaa.QGangs
