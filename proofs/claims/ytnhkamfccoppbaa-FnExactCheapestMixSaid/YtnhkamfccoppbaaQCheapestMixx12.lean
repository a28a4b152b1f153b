-- Written by press.py, a program of this session, round the kit's print.py (functions and contracts; Lean checks them).
import Derived.Test.YtnhkamfccoppbaaQCheapestMixx0
import Derived.Test.YtnhkamfccoppbaaQCheapestMixx8
import Derived.Test.YtnhkamfccoppbaaQCheapestMixx11
namespace Go.Proofs.Ytnhkamfccoppbaa.QCheapestMix
open Go.Proofs.Ytnhkamfccoppbaa.QWords
attribute [local go_sem high] binOp_string_geq_q binOp_string_leq_q binOp_string_gtr_q
open Go.RowKit Go.Proofs.YtnhkamfccoppbaaW.PrintWords Go.Proofs.YtnhkamfccoppbaaW.PrintLast Go.Proofs.YtnhkamfccoppbaaW.PrintMore
attribute [local go_sem] max2_int min2_int max_two min_two max_three min_three max_four min_four   -- for this text's walks alone
set_option linter.unusedVariables false
set_option linter.unusedSimpArgs false

/-! ### impl_CheapestMix: function 18 -/
theorem mix_store_func {P : Program} {w : World} {a : Addr} {m : Mode} (fn : Fn) (first captured : Array Value) : (store a (.func fn first captured) m).run P w = stored P w a (.func fn first captured) m := run_store P w a _ m rfl
attribute [local go_sem] mix_store_func
def impl_CheapestMix.f (k : Nat) (l0 : List (S46)) (a1 : Int) (a2 : Int) : Option (List Int × Int × Int) := (impl_mixCode.f k l0 a1 a2).bind fun t267 => (if t267 = 0 then ((impl_mixes_best.f k l0 0 (mn a2 2400) 0 0 a1).bind fun bt269 => (some (bt269.1, bt269.2.1, bt269.2.2))) else (some (([] : List Int), 0, t267)))
theorem impl_CheapestMix.mono : ∀ a0 a1 a2 k, LeO (impl_CheapestMix.f k a0 a1 a2) (impl_CheapestMix.f (k + 1) a0 a1 a2) := by
 intro a0 a1 a2 k
 unfold impl_CheapestMix.f
 repeat' first
   | (with_reducible exact impl_mixCode.mono _ _ _ _)
   | (with_reducible exact impl_mixes_best.mono _ _ _ _ _ _ _)
   | (with_reducible exact LeO.refl _)
   | (with_reducible exact LeO.none _)
   | (with_reducible refine LeO.ite ?_ ?_)
   | (with_reducible refine LeO.bind ?_ (fun _ => ?_))
   | exact impl_mixCode.mono _ _ _ _
   | exact impl_mixes_best.mono _ _ _ _ _ _ _
   | exact LeO.none _
   | refine LeO.ite ?_ ?_
   | refine LeO.bind ?_ (fun _ => ?_)
set_option maxHeartbeats 8000000 in
set_option maxRecDepth 100000 in
theorem impl_CheapestMix.calls (k : Nat) (A0 : Option Addr) (c0 : Nat) (l0 : List (S46)) (a1 : Int) (a2 : Int) (r1 : List Int) (r2 : Int) (r3 : Int) (w : World) (hr0 : Kd.C k46 w A0 l0.length l0) (hc0 : l0.length ≤ c0) (h : impl_CheapestMix.f k l0 a1 a2 = some (r1, r2, r3)) :
  Calls Try.prog 18 #[.slice A0 l0.length c0, .int .i64 a1, .int .i64 a2] w fun e w' => ∃ v0_ : Value, e = .returned (.tuple #[v0_, .int .i64 r2, .int .i64 r3]) ∧ Kd.R (Kd.int .i64) 2 w' w.heap.size (fun _ => True) v0_ r1 ∧ Below w.heap.size w w' := by
 have hu55 := Try.underlying55
 have HR0 := As0.mk hr0
 have HC0 := As0.mk hc0
 clear hr0 hc0
 have HB := As0.mk (Below.refl w.heap.size w)
 have H : ((impl_mixCode.f k l0 a1 a2).bind fun t267 => (if t267 = 0 then ((impl_mixes_best.f k l0 0 (mn a2 2400) 0 0 a1).bind fun bt269 => (some (bt269.1, bt269.2.1, bt269.2.2))) else (some (([] : List Int), 0, t267)))) = some (r1, r2, r3) := h
 clear h
 replace H := Option.bind_eq_some_iff.mp H
 obtain ⟨t267, A40, H⟩ := H
 replace H : (if t267 = 0 then ((impl_mixes_best.f k l0 0 (mn a2 2400) 0 0 a1).bind fun bt269 => (some (bt269.1, bt269.2.1, bt269.2.2))) else (some (([] : List Int), 0, t267))) = some (r1, r2, r3) := H
 have A4 := As0.mk A40
 clear A40
 by_cases c5 : t267 = 0
 ·rw [if_pos c5] at H
  have c5b0 : (t267 == 0) = true := beq_iff_eq.mpr c5
  have c5b1 : (t267 != 0) = false := bne_eq_false_iff_eq.mpr c5
  clear c5
  obtain ⟨ji6, hji6⟩ : ∃ j_ : Int, (mn a2 2400) = j_ := ⟨_, rfl⟩
  replace H : ((impl_mixes_best.f k l0 0 (ji6) 0 0 a1).bind fun bt269 => (some (bt269.1, bt269.2.1, bt269.2.2))) = some (r1, r2, r3) := by first | (rw [hji6] at H; exact H) | (simp only [hji6] at H ⊢; exact H)
  (try rw [hji6] at A4)
  (try (have hji6h : ji6 ≤ 2400 := by (rw [← hji6]; unfold mn; (repeat' split) <;> omega)))
  (try (have hji6g : ji6 ≤ 64 := by omega))
  have hji6_ : (if 2400 < a2 then 2400 else a2) = ji6 := hji6
  replace H := Option.bind_eq_some_iff.mp H
  obtain ⟨⟨t269, t272, t273⟩, A70, H⟩ := H
  replace H : (some (t269, t272, t273)) = some (r1, r2, r3) := H
  have A7 := As0.mk A70
  clear A70
  simp only [Option.some.injEq, Prod.mk.injEq] at H
  obtain ⟨rfl, rfl, rfl⟩ := H
  go_enter Try.func18, Try.ntmps18
  go_wp2_with (first | ((with_reducible refine gce (f := 28) rfl ?_); refine goesL_ (some 14) rfl rfl Try.func28 (by kernel_rfl) rfl #[.slice A0 l0.length c0, .int .i64 a1, .int .i64 a2] rfl (by (try simp only [List.map_toArray, List.map_cons, List.map_nil]); first | done | rfl | (simp only [List.length_drop, List.length_take]; rfl)) ?_; (with_reducible refine (impl_mixCode.calls k _ _ l0 a1 a2 t267 _ ?side1 ?side2 A4.out).mono ?_); (case side1 => repeat (first | exact HR0.out | (with_reducible refine Kd.C_alloc ?_ _) | (with_reducible refine Kd.C_drewN ?_ _) | (with_reducible refine Kd.C_drew ?_))); (case side2 => exact HC0.out); rintro e w8 ⟨rfl, hb⟩; refine ⟨_, rfl, ?_⟩; have n0_ := As0.mk (bsp (by repeat (with_reducible first | exact HB.out | apply bal | apply pbN | apply bdw)) hb); clear HB; have HB := n0_; clear n0_; (try clear hb); (try clear hb2); (try clear hk); (try clear hi)) | ((with_reducible refine gate_dst (N := 10) rfl ?_); refine box_event ?hg (N := 10) ?hd (cs := #[.slice none 0 0, .nilFunc, .int .i64 0, .map none, .map none]) (t := 55) ?hr ?_; (case hd => rfl); (case hg => rfl); (case hr => first | (go_simp; done) | (go_simp; rfl)); intro gb268 hg w9 hbox hb; have n0_ := As0.mk (bsp (by repeat (with_reducible first | exact HB.out | apply bal | apply pbN | apply bdw)) hb); have n1_ := As0.mk (hbox); have n2_ := As0.mk ((by rw [hg]; exact (bsz (by repeat (with_reducible first | exact HB.out | apply bal | apply pbN | apply bdw))) : w.heap.size ≤ gb268)); have n3_ := As0.mk ((by rw [hg]; exact (bsz (by repeat (with_reducible first | exact HB.out | apply bal | apply pbN | apply bdw))) : w.heap.size ≤ gb268)); clear HB; have HB := n0_; have BK268 := n1_; have GW268 := n2_; have GE268 := n3_; clear n0_ n1_ n2_ n3_; clear hb hbox hg; have hcz10_0 : w9.cell? ⟨gb268, 0, none⟩ = some (.slice none 0 0) := (bkc BK268.out 0).trans rfl; have hcz10_1 : w9.cell? ⟨gb268, 1, none⟩ = some (.nilFunc) := (bkc BK268.out 1).trans rfl; have hcz10_2 : w9.cell? ⟨gb268, 2, none⟩ = some (.int .i64 0) := (bkc BK268.out 2).trans rfl; have hcz10_3 : w9.cell? ⟨gb268, 3, none⟩ = some (.map none) := (bkc BK268.out 3).trans rfl; have hcz10_4 : w9.cell? ⟨gb268, 4, none⟩ = some (.map none) := (bkc BK268.out 4).trans rfl; have hfz10_0 := bkf BK268.out 0; have hfz10_1 := bkf BK268.out 1; have hfz10_2 := bkf BK268.out 2; have hfz10_3 := bkf BK268.out 3; have hfz10_4 := bkf BK268.out 4) | ((with_reducible refine gce (f := 30) rfl ?_); refine goesL_ (some 24) rfl rfl Try.func30 (by kernel_rfl) rfl #[.agg #[.slice A0 l0.length c0, .func (.func 32) #[] #[], .int .i64 ji6, .map none, .map none], .int .i64 a1] rfl (by (try simp only [List.map_toArray, List.map_cons, List.map_nil]); first | done | (simp only [hji6]; rfl) | rfl | (simp only [List.length_drop, List.length_take]; rfl)) ?_; (with_reducible refine (impl_mixes_best.calls k _ _ l0 ji6 a1 t269 t272 t273 _ ?side1 ?side2 A7.out).mono ?_); (case side1 => exact Kd.C_below HR0.out (by repeat (with_reducible first | exact HB.out | apply bal | apply pbN | apply bdw | refine bst ?_ GE268.out))); (case side2 => exact HC0.out); rintro e w11 ⟨v270, rfl, ho0, hb⟩; refine ⟨_, rfl, ?_⟩; have n0_ := As0.mk (Kd.R_lower ho0 (bsz (by repeat (with_reducible first | exact HB.out | apply bal | apply pbN | apply bdw | refine bst ?_ GE268.out)))); have n1_ := As0.mk (bkb (g := gb268) (o := .cells #[.slice A0 l0.length c0, .func (.func 32) #[] #[], .int .i64 ji6, .map none, .map none] 55 (0, 0)) (by (with_reducible repeat first | refine bkN ?_ _ | refine bkd ?_ | refine bka ?_ _); refine blk_put (cs := #[.slice A0 l0.length c0, .func (.func 32) #[] #[], .int .i64 ji6, .map none, .map none]) ?_ 4 _ rfl; (with_reducible repeat first | refine bkN ?_ _ | refine bkd ?_ | refine bka ?_ _); refine blk_put (cs := #[.slice A0 l0.length c0, .func (.func 32) #[] #[], .int .i64 ji6, .map none, .map none]) ?_ 3 _ rfl; (with_reducible repeat first | refine bkN ?_ _ | refine bkd ?_ | refine bka ?_ _); refine blk_put (cs := #[.slice A0 l0.length c0, .func (.func 32) #[] #[], .int .i64 0, .map none, .map none]) ?_ 2 _ rfl; (with_reducible repeat first | refine bkN ?_ _ | refine bkd ?_ | refine bka ?_ _); refine blk_put (cs := #[.slice A0 l0.length c0, .nilFunc, .int .i64 0, .map none, .map none]) ?_ 1 _ rfl; (with_reducible repeat first | refine bkN ?_ _ | refine bkd ?_ | refine bka ?_ _); refine blk_put (cs := #[.slice none 0 0, .nilFunc, .int .i64 0, .map none, .map none]) ?_ 0 _ rfl; (with_reducible repeat first | refine bkN ?_ _ | refine bkd ?_ | refine bka ?_ _); exact BK268.out) hb); have n2_ := As0.mk (bsp (by repeat (with_reducible first | exact HB.out | apply bal | apply pbN | apply bdw | refine bst ?_ GE268.out)) hb); clear BK268; clear HB; have HO271 := n0_; have BK268 := n1_; have HB := n2_; clear n0_ n1_ n2_; (try clear hb); (try clear hb2); (try clear hk); (try clear hi); (try clear ho0)))
  go_ret3
  exact ⟨_, by first | rfl | (simp [eWn, eWs] <;> rfl) | (simp only [← hji6]; first | rfl | (simp [eWn, eWs] <;> rfl)) | (simp [*, eWn, eWs] <;> rfl), by (with_reducible repeat (first | apply Kd.R_alloc | apply Kd.R_drewN | apply Kd.R_drew)); exact HO271.out, by repeat (with_reducible first | exact HB.out | apply bal | apply pbN | apply bdw | refine bst ?_ GE268.out)⟩
 ·rw [if_neg c5] at H
  have c5b0 : (t267 == 0) = false := beq_eq_false_iff_ne.mpr c5
  have c5b1 : (t267 != 0) = true := bne_iff_ne.mpr c5
  simp only [Option.some.injEq, Prod.mk.injEq] at H
  obtain ⟨rfl, rfl, rfl⟩ := H
  go_enter Try.func18, Try.ntmps18
  go_wp2_with (first | ((with_reducible refine gce (f := 28) rfl ?_); refine goesL_ (some 14) rfl rfl Try.func28 (by kernel_rfl) rfl #[.slice A0 l0.length c0, .int .i64 a1, .int .i64 a2] rfl (by (try simp only [List.map_toArray, List.map_cons, List.map_nil]); first | done | rfl | (simp only [List.length_drop, List.length_take]; rfl)) ?_; (with_reducible refine (impl_mixCode.calls k _ _ l0 a1 a2 t267 _ ?side1 ?side2 A4.out).mono ?_); (case side1 => repeat (first | exact HR0.out | (with_reducible refine Kd.C_alloc ?_ _) | (with_reducible refine Kd.C_drewN ?_ _) | (with_reducible refine Kd.C_drew ?_))); (case side2 => exact HC0.out); rintro e w12 ⟨rfl, hb⟩; refine ⟨_, rfl, ?_⟩; have n0_ := As0.mk (bsp (by repeat (with_reducible first | exact HB.out | apply bal | apply pbN | apply bdw)) hb); clear HB; have HB := n0_; clear n0_; (try clear hb); (try clear hb2); (try clear hk); (try clear hi)))
  go_ret3
  exact ⟨_, by first | rfl | (simp [eWn, eWs] <;> rfl) | (simp [*, eWn, eWs] <;> rfl), by first | exact Kd.R_nil _ _ _ _ _ | exact Kd.N_nil _ _ _ _ _ | exact Kd.V_nil _ _ _ _ _ | exact Kd.Q_nil _ _ _ _ _ | exact Kd.S_nil _ _ _ _ _, by repeat (with_reducible first | exact HB.out | apply bal | apply pbN | apply bdw)⟩

end Go.Proofs.Ytnhkamfccoppbaa.QCheapestMix
