-- Written by press.py, a program of this session, round the kit's print.py (functions and contracts; Lean checks them).
import Derived.Test.YtamiipnoeffjkaaQForecastOfx0
import Derived.Test.YtamiipnoeffjkaaQForecastOfx1
import Derived.Test.YtamiipnoeffjkaaQForecastOfx2
namespace Go.Proofs.Ytamiipnoeffjkaa.QForecastOf
open Go.Proofs.Ytamiipnoeffjkaa.QWords
attribute [local go_sem high] binOp_string_geq_q binOp_string_leq_q binOp_string_gtr_q
open Go.RowKit Go.Proofs.YtamiipnoeffjkaaW.PrintWords Go.Proofs.YtamiipnoeffjkaaW.PrintLast Go.Proofs.YtamiipnoeffjkaaW.PrintMore
attribute [local go_sem] max2_int min2_int max_two min_two max_three min_three max_four min_four   -- for this text's walks alone
set_option linter.unusedVariables false
set_option linter.unusedSimpArgs false

/-! ### an element of an own row, its cells written one by one -/
section
variable {α : Type} {d : Kd α} {e g n cap : Nat} {W w1 : World} {base : Nat} {ok oki : Nat → Prop} {xs : List α} {i : Int} {c : List Value}
theorem hole_cells (h : Kd.H d e W base ok (.slice (some ⟨g, 0, none⟩) n cap) xs i oki c) (h0 : 0 ≤ i) (h1 : i < n) :
    (∀ j u, c[j]? = some u → W.cell? ⟨g, i.toNat * d.sz + j, none⟩ = some u) ∧ (∀ j, W.frozen? ⟨g, i.toNat * d.sz + j, none⟩ = false) := by
  obtain ⟨rows, hrl, hraw, _, _, hcc, _⟩ := Kd.H_raw h h0 h1
  obtain ⟨_, _, _, _, hfr⟩ := Kd.R_elem hraw [] i h0 h1
  exact ⟨hcc, hfr⟩
theorem hole_put (h : Kd.H d e W base ok (.slice (some ⟨g, 0, none⟩) n cap) xs i oki c) (h0 : 0 ≤ i) (h1 : i < n) (j : Nat) (u : Value) (hj : j + 1 ≤ d.sz) (hu : u.oneCell' = true) :
    Kd.H d e (W.setCell ⟨g, i.toNat * d.sz + j, none⟩ u) base ok (.slice (some ⟨g, 0, none⟩) n cap) xs i oki (c.take j ++ [u] ++ c.drop (j + 1)) ∧ W.grownBy (W.setCell ⟨g, i.toNat * d.sz + j, none⟩ u) (some g) := by
  have := Kd.H_seg h h0 h1 (seg := [u]) (j := j) hj (fun q hq => by rw [List.mem_singleton.1 hq]; exact hu)
  exact this
end

/-! ### laws_markBuildingS: function 60 -/
def laws_markBuildingS.l0 : Nat → List (S96) → Int → Int → Option (Int × List (S96))
  | 0, _, _, _ => none
  | k + 1, x0, x1, x5 => if x5 < (x0.length : Int) then (if 0 ≤ x5 then ((laws_markText.f k x1).bind fun t100 => ((laws_markInt64S.f k ((rd_T96 x0 x5).f5) (wrap64 ((wrap64 ((wrap64 ((wrap64 ((wrap64 (x1 + 1)) + 1)) + 1)) + 1)) + 1))).bind fun bt => laws_markBuildingS.l0 k (x0.set (x5 : Int).toNat (⟨t100, wrap64 (x1 + 1), wrap64 ((wrap64 (x1 + 1)) + 1), wrap64 ((wrap64 ((wrap64 (x1 + 1)) + 1)) + 1), wrap64 ((wrap64 ((wrap64 ((wrap64 (x1 + 1)) + 1)) + 1)) + 1), bt.2⟩ : S96)) bt.1 (wrap64 (x5 + 1)))) else (none)) else (some (x1, x0))
def laws_markBuildingS.f (k : Nat) (l0 : List (S96)) (a1 : Int) : Option (Int × List (S96)) := laws_markBuildingS.l0 k l0 a1 0
theorem laws_markBuildingS.mono_l : ∀ k, (∀ y0 y1 y2, LeO (laws_markBuildingS.l0 k y0 y1 y2) (laws_markBuildingS.l0 (k + 1) y0 y1 y2))
  | 0 => fun _ _ _ r h => by simp [laws_markBuildingS.l0] at h
  | k + 1 => by
    have ih0 := laws_markBuildingS.mono_l k
    · intro y0 y1 y2
      unfold laws_markBuildingS.l0
      repeat' first
      | (with_reducible exact ih0 _ _ _)
      | (with_reducible exact laws_markText.mono _ _)
      | (with_reducible exact laws_markInt64S.mono _ _ _)
      | (with_reducible exact LeO.refl _)
      | (with_reducible exact LeO.none _)
      | (with_reducible refine LeO.ite ?_ ?_)
      | (with_reducible refine LeO.bind ?_ (fun _ => ?_))
      | exact ih0 _ _ _
      | exact LeO.none _
      | refine LeO.ite ?_ ?_
      | refine LeO.bind ?_ (fun _ => ?_)
theorem laws_markBuildingS.mono : ∀ a0 a1 k, LeO (laws_markBuildingS.f k a0 a1) (laws_markBuildingS.f (k + 1) a0 a1) := by
  intro a0 a1 k
  have ih0 := laws_markBuildingS.mono_l k
  unfold laws_markBuildingS.f
  repeat' first
      | (with_reducible exact ih0 _ _ _)
      | (with_reducible exact laws_markText.mono _ _)
      | (with_reducible exact laws_markInt64S.mono _ _ _)
      | (with_reducible exact LeO.refl _)
      | (with_reducible exact LeO.none _)
      | (with_reducible refine LeO.ite ?_ ?_)
      | (with_reducible refine LeO.bind ?_ (fun _ => ?_))
      | exact ih0 _ _ _
      | exact LeO.none _
      | refine LeO.ite ?_ ?_
      | refine LeO.bind ?_ (fun _ => ?_)
set_option maxHeartbeats 8000000 in
set_option maxRecDepth 100000 in
theorem laws_markBuildingS.calls (k : Nat) (P0_ : Nat → Prop) (u9000_ : Value) (l0 : List (S96)) (a1 : Int) (r1 : Int) (r2 : List (S96)) (w0 w : World) (hB : Below w0.heap.size w0 w) (ho0 : Kd.S k96 96 w w0.heap.size P0_ u9000_ l0) (h : laws_markBuildingS.f k l0 a1 = some (r1, r2)) :
    Calls Try.prog 60 #[u9000_, .int .i64 a1] w fun e w' => e = .returned (.int .i64 r1) ∧ Kd.S k96 96 w' w0.heap.size (fun k_ => P0_ k_) u9000_ r2 ∧ Below w0.heap.size w0 w' ∧ Kept w w' (fun k_ => P0_ k_) := by
  have HO0 := Aside0.mk (show Kd.S k96 96 w w0.heap.size (fun k_ => P0_ k_) u9000_ l0 from ho0)
  have HK := Aside0.mk (Kept.refl w (fun k_ => P0_ k_))
  have HB := Aside0.mk hB
  clear hB ho0
  have H' := Aside0.mk (show (laws_markBuildingS.l0 k l0 a1 0) = some (r1, r2) from h)
  clear h
  go_enter Try.func60, Try.ntmps60
  go_wp2
  go_loopg [1, 5] k (fun kq v1 v5 w' => ∃ (x0_1 : List (S96)) (x1_1 : Int) (x5_1 : Int), v1 = .int .i64 x1_1 ∧ v5 = .int .i64 x5_1 ∧ Aside0 (laws_markBuildingS.l0 kq x0_1 x1_1 x5_1 = some (r1, r2)) ∧ Aside0 (kq ≤ k) ∧ Aside0 (Kd.S k96 96 w' w0.heap.size (fun k_ => P0_ k_) u9000_ x0_1) ∧ Aside0 (Kept w w' (fun k_ => P0_ k_)) ∧ Aside0 (Below w0.heap.size w0 w'))
  case atStart => exact ⟨(l0), (a1), (0), (by first | rfl | (simp; done) | (simp [*]; done)), (by first | rfl | (simp; done) | (simp [*]; done)), H', ⟨Nat.le_refl _⟩, ⟨by (with_reducible repeat (first | apply Kd.S_alloc | apply Kd.S_drewN | apply Kd.S_drew)); exact HO0.out⟩, ⟨by repeat (first | (with_reducible first | exact HK.out | apply Kept.alloc | apply Kept.drewN | apply Kept.drew) | exact HK.out)⟩, ⟨by repeat (first | (with_reducible first | exact HB.out | apply below_alloc | apply pw_below_drewN | apply below_drew1) | exact HB.out)⟩⟩
  case round =>
    clear H'
    obtain ⟨x0_1, x1_1, x5_1, rfl, rfl, HA, HK1, HO_0, HK, HB⟩ := hrel
    cases gk with
    | zero => exact absurd HA.out (by simp [laws_markBuildingS.l0])
    | succ k1 =>
      have H := HA.out
      clear HA
      simp only [laws_markBuildingS.l0] at H
      by_cases c3 : x5_1 < (x0_1.length : Int)
      · rw [if_pos c3] at H
        have c3b0 : decide (x5_1 < (x0_1.length : Int)) = true := decide_eq_true c3
        by_cases c4 : 0 ≤ x5_1
        · rw [if_pos c4] at H
          have c4b0 : decide (0 ≤ x5_1) = true := decide_eq_true c4
          obtain ⟨t100, A0_, H⟩ := Option.bind_eq_some_iff.mp H
          have At100 := Aside0.mk A0_
          clear A0_
          obtain ⟨⟨t190, t191⟩, A0_, H⟩ := Option.bind_eq_some_iff.mp H
          have AL := Aside0.mk A0_
          clear A0_
          have H' := Aside0.mk H
          clear H
          obtain ⟨Ao, co, eo⟩ := Kd.S_slice HO_0.out
          subst eo
          obtain ⟨go, co6, eo6, gb6, gl6, cl6, HG6⟩ := Kd.S_form HO_0.out (by omega)
          (first | cases eo6 | (injection eo6 with ea_ en_ ec_; (first | subst ea_ | (injection ea_ with ea_; subst ea_)); subst ec_; clear en_))
          have GB := Aside0.mk gb6
          clear gb6 gl6 cl6 HG6
          have HP := Aside0.mk (show P0_ go from (Kd.S_R HO_0.out).1 _ rfl)
          obtain ⟨oki, ce6, _, hM6, _, _, hi6, hH6⟩ := Kd.S_elem HO_0.out z96 x5_1 c4 c3
          obtain ⟨ve, rfl, ge6⟩ := k96_openM hM6
          have HI := Aside0.mk hi6
          have HE := Aside0.mk (show Kd.R (Kd.int .i64) 2 wr w0.heap.size oki ve ((rd_T96 x0_1 x5_1).f5) from ge6)
          have HH := Aside0.mk (show Kd.H k96 96 wr w0.heap.size (fun k_ => P0_ k_) (.slice (some ⟨go, 0, none⟩) x0_1.length co) x0_1 x5_1 oki [(.string ((rd_T96 x0_1 x5_1).f0)), (.int .i64 ((rd_T96 x0_1 x5_1).f1)), (.int .i64 ((rd_T96 x0_1 x5_1).f2)), (.int .i64 ((rd_T96 x0_1 x5_1).f3)), (.int .i64 ((rd_T96 x0_1 x5_1).f4)), ve] from hH6)
          clear hi6 ge6 hH6 HO_0 
          have P5 := eq_true c4
          have Q5 := eq_true (show x5_1 < ((x0_1.length : Nat) : Int) from c3)
          clear c3 c4
          obtain ⟨hcc, hfr⟩ := hole_cells HH.out (of_eq_true P5) (of_eq_true Q5)
          have hx_0 : wr.cell? ⟨go, (x5_1 : Int).toNat * 6, none⟩ = some (.string ((rd_T96 x0_1 x5_1).f0)) := (by have h_ := hcc 0 _ rfl; (try simp only [show (k96).sz = 6 from rfl, Nat.mul_one, Nat.add_zero] at h_); exact h_)
          have hf_0 : wr.frozen? ⟨go, (x5_1 : Int).toNat * 6, none⟩ = false := (by have h_ := hfr 0; (try simp only [show (k96).sz = 6 from rfl, Nat.mul_one, Nat.add_zero] at h_); exact h_)
          have hx_1 : wr.cell? ⟨go, (x5_1 : Int).toNat * 6 + 1, none⟩ = some (.int .i64 ((rd_T96 x0_1 x5_1).f1)) := (by have h_ := hcc 1 _ rfl; (try simp only [show (k96).sz = 6 from rfl, Nat.mul_one, Nat.add_zero] at h_); exact h_)
          have hf_1 : wr.frozen? ⟨go, (x5_1 : Int).toNat * 6 + 1, none⟩ = false := (by have h_ := hfr 1; (try simp only [show (k96).sz = 6 from rfl, Nat.mul_one, Nat.add_zero] at h_); exact h_)
          have hx_2 : wr.cell? ⟨go, (x5_1 : Int).toNat * 6 + 2, none⟩ = some (.int .i64 ((rd_T96 x0_1 x5_1).f2)) := (by have h_ := hcc 2 _ rfl; (try simp only [show (k96).sz = 6 from rfl, Nat.mul_one, Nat.add_zero] at h_); exact h_)
          have hf_2 : wr.frozen? ⟨go, (x5_1 : Int).toNat * 6 + 2, none⟩ = false := (by have h_ := hfr 2; (try simp only [show (k96).sz = 6 from rfl, Nat.mul_one, Nat.add_zero] at h_); exact h_)
          have hx_3 : wr.cell? ⟨go, (x5_1 : Int).toNat * 6 + 3, none⟩ = some (.int .i64 ((rd_T96 x0_1 x5_1).f3)) := (by have h_ := hcc 3 _ rfl; (try simp only [show (k96).sz = 6 from rfl, Nat.mul_one, Nat.add_zero] at h_); exact h_)
          have hf_3 : wr.frozen? ⟨go, (x5_1 : Int).toNat * 6 + 3, none⟩ = false := (by have h_ := hfr 3; (try simp only [show (k96).sz = 6 from rfl, Nat.mul_one, Nat.add_zero] at h_); exact h_)
          have hx_4 : wr.cell? ⟨go, (x5_1 : Int).toNat * 6 + 4, none⟩ = some (.int .i64 ((rd_T96 x0_1 x5_1).f4)) := (by have h_ := hcc 4 _ rfl; (try simp only [show (k96).sz = 6 from rfl, Nat.mul_one, Nat.add_zero] at h_); exact h_)
          have hf_4 : wr.frozen? ⟨go, (x5_1 : Int).toNat * 6 + 4, none⟩ = false := (by have h_ := hfr 4; (try simp only [show (k96).sz = 6 from rfl, Nat.mul_one, Nat.add_zero] at h_); exact h_)
          have hx_5 : wr.cell? ⟨go, (x5_1 : Int).toNat * 6 + 5, none⟩ = some ve := (by have h_ := hcc 5 _ rfl; (try simp only [show (k96).sz = 6 from rfl, Nat.mul_one, Nat.add_zero] at h_); exact h_)
          have hf_5 : wr.frozen? ⟨go, (x5_1 : Int).toNat * 6 + 5, none⟩ = false := (by have h_ := hfr 5; (try simp only [show (k96).sz = 6 from rfl, Nat.mul_one, Nat.add_zero] at h_); exact h_)
          clear hcc hfr
          go_wp2_with (first | ((with_reducible refine gate_callee (f := 87) rfl ?_); refine goesL_ (some 15) rfl rfl Try.func87 (by kernel_rfl) rfl #[.int .i64 x1_1] rfl (by (try simp only [List.map_toArray, List.map_cons, List.map_nil]); first | done | rfl) ?_; (with_reducible refine (laws_markText.calls k1 x1_1 t100 _ At100.out).mono ?_); rintro e w200 ⟨rfl, hb⟩; refine ⟨_, rfl, ?_⟩; have n0_ := Aside0.mk (show Kd.H k96 96 w200 w0.heap.size (fun k_ => P0_ k_) (.slice (some ⟨go, 0, none⟩) x0_1.length co) x0_1 x5_1 oki [(.string ((rd_T96 x0_1 x5_1).f0)), (.int .i64 ((rd_T96 x0_1 x5_1).f1)), (.int .i64 ((rd_T96 x0_1 x5_1).f2)), (.int .i64 ((rd_T96 x0_1 x5_1).f3)), (.int .i64 ((rd_T96 x0_1 x5_1).f4)), ve] from Kd.H_below HH.out hb); have n1_ := Aside0.mk (show Kd.R (Kd.int .i64) 2 w200 w0.heap.size oki ve ((rd_T96 x0_1 x5_1).f5) from Kd.R_below HE.out hb); have n2_ := Aside0.mk (Kept.below (S := (fun k_ => P0_ k_)) HK.out hb); have n3_ := Aside0.mk (below_step HB.out hb); clear hx_0 hf_0 hx_1 hf_1 hx_2 hf_2 hx_3 hf_3 hx_4 hf_4 hx_5 hf_5; clear HH HE HK HB hb; have HH := n0_; have HE := n1_; have HK := n2_; have HB := n3_; clear n0_ n1_ n2_ n3_; obtain ⟨hcc, hfr⟩ := hole_cells HH.out (of_eq_true P5) (of_eq_true Q5); have hx_0 : w200.cell? ⟨go, (x5_1 : Int).toNat * 6, none⟩ = some (.string ((rd_T96 x0_1 x5_1).f0)) := (by have h_ := hcc 0 _ rfl; (try simp only [show (k96).sz = 6 from rfl, Nat.mul_one, Nat.add_zero] at h_); exact h_); have hf_0 : w200.frozen? ⟨go, (x5_1 : Int).toNat * 6, none⟩ = false := (by have h_ := hfr 0; (try simp only [show (k96).sz = 6 from rfl, Nat.mul_one, Nat.add_zero] at h_); exact h_); have hx_1 : w200.cell? ⟨go, (x5_1 : Int).toNat * 6 + 1, none⟩ = some (.int .i64 ((rd_T96 x0_1 x5_1).f1)) := (by have h_ := hcc 1 _ rfl; (try simp only [show (k96).sz = 6 from rfl, Nat.mul_one, Nat.add_zero] at h_); exact h_); have hf_1 : w200.frozen? ⟨go, (x5_1 : Int).toNat * 6 + 1, none⟩ = false := (by have h_ := hfr 1; (try simp only [show (k96).sz = 6 from rfl, Nat.mul_one, Nat.add_zero] at h_); exact h_); have hx_2 : w200.cell? ⟨go, (x5_1 : Int).toNat * 6 + 2, none⟩ = some (.int .i64 ((rd_T96 x0_1 x5_1).f2)) := (by have h_ := hcc 2 _ rfl; (try simp only [show (k96).sz = 6 from rfl, Nat.mul_one, Nat.add_zero] at h_); exact h_); have hf_2 : w200.frozen? ⟨go, (x5_1 : Int).toNat * 6 + 2, none⟩ = false := (by have h_ := hfr 2; (try simp only [show (k96).sz = 6 from rfl, Nat.mul_one, Nat.add_zero] at h_); exact h_); have hx_3 : w200.cell? ⟨go, (x5_1 : Int).toNat * 6 + 3, none⟩ = some (.int .i64 ((rd_T96 x0_1 x5_1).f3)) := (by have h_ := hcc 3 _ rfl; (try simp only [show (k96).sz = 6 from rfl, Nat.mul_one, Nat.add_zero] at h_); exact h_); have hf_3 : w200.frozen? ⟨go, (x5_1 : Int).toNat * 6 + 3, none⟩ = false := (by have h_ := hfr 3; (try simp only [show (k96).sz = 6 from rfl, Nat.mul_one, Nat.add_zero] at h_); exact h_); have hx_4 : w200.cell? ⟨go, (x5_1 : Int).toNat * 6 + 4, none⟩ = some (.int .i64 ((rd_T96 x0_1 x5_1).f4)) := (by have h_ := hcc 4 _ rfl; (try simp only [show (k96).sz = 6 from rfl, Nat.mul_one, Nat.add_zero] at h_); exact h_); have hf_4 : w200.frozen? ⟨go, (x5_1 : Int).toNat * 6 + 4, none⟩ = false := (by have h_ := hfr 4; (try simp only [show (k96).sz = 6 from rfl, Nat.mul_one, Nat.add_zero] at h_); exact h_); have hx_5 : w200.cell? ⟨go, (x5_1 : Int).toNat * 6 + 5, none⟩ = some ve := (by have h_ := hcc 5 _ rfl; (try simp only [show (k96).sz = 6 from rfl, Nat.mul_one, Nat.add_zero] at h_); exact h_); have hf_5 : w200.frozen? ⟨go, (x5_1 : Int).toNat * 6 + 5, none⟩ = false := (by have h_ := hfr 5; (try simp only [show (k96).sz = 6 from rfl, Nat.mul_one, Nat.add_zero] at h_); exact h_); clear hcc hfr) | ((with_reducible refine gate_store (t := 9) (p := 17) rfl ?_); refine store_event (t := 9) (p := 17) (v := ?vo_w201) (w1 := (w200.setCell ⟨go, (x5_1 : Int).toNat * 6, none⟩ (.string t100))) ?hg ?ho ?hn ?hr ?_; (case ho => rfl); (case hg => rfl); (case hn => rfl); (case hr => first | (go_simp; done) | (go_simp; rfl)); intro w201 hw; have q_ := hole_put HH.out (of_eq_true P5) (of_eq_true Q5) 0 (.string t100) (by decide) rfl; (try simp only [show (k96).sz = 6 from rfl, Nat.mul_one, Nat.add_zero] at q_); have hg : w200.grownBy w201 (some go) := (by rw [hw]; exact q_.2); have n0_ := Aside0.mk (show Kd.H k96 96 w201 w0.heap.size (fun k_ => P0_ k_) (.slice (some ⟨go, 0, none⟩) x0_1.length co) x0_1 x5_1 oki [(.string t100), (.int .i64 ((rd_T96 x0_1 x5_1).f1)), (.int .i64 ((rd_T96 x0_1 x5_1).f2)), (.int .i64 ((rd_T96 x0_1 x5_1).f3)), (.int .i64 ((rd_T96 x0_1 x5_1).f4)), ve] from (by rw [hw]; exact q_.1)); have n1_ := Aside0.mk (show Kd.R (Kd.int .i64) 2 w201 w0.heap.size oki ve ((rd_T96 x0_1 x5_1).f5) from Kd.R_grown HE.out hg (fun k_ hk_ e_ => (HI.out k_ hk_).2 (Option.some.inj e_))); have n2_ := Aside0.mk (Kept.of_grown (S := (fun k_ => P0_ k_)) hg HK.out (fun k_ e_ => .inl (Option.some.inj e_ ▸ HP.out))); have n3_ := Aside0.mk ((by rw [hw]; exact below_set (HB.out) GB.out : Below w0.heap.size w0 w201)); clear hx_0 hf_0 hx_1 hf_1 hx_2 hf_2 hx_3 hf_3 hx_4 hf_4 hx_5 hf_5; clear HH HE HK HB hg hw q_; have HH := n0_; have HE := n1_; have HK := n2_; have HB := n3_; clear n0_ n1_ n2_ n3_; obtain ⟨hcc, hfr⟩ := hole_cells HH.out (of_eq_true P5) (of_eq_true Q5); have hx_0 : w201.cell? ⟨go, (x5_1 : Int).toNat * 6, none⟩ = some (.string t100) := (by have h_ := hcc 0 _ rfl; (try simp only [show (k96).sz = 6 from rfl, Nat.mul_one, Nat.add_zero] at h_); exact h_); have hf_0 : w201.frozen? ⟨go, (x5_1 : Int).toNat * 6, none⟩ = false := (by have h_ := hfr 0; (try simp only [show (k96).sz = 6 from rfl, Nat.mul_one, Nat.add_zero] at h_); exact h_); have hx_1 : w201.cell? ⟨go, (x5_1 : Int).toNat * 6 + 1, none⟩ = some (.int .i64 ((rd_T96 x0_1 x5_1).f1)) := (by have h_ := hcc 1 _ rfl; (try simp only [show (k96).sz = 6 from rfl, Nat.mul_one, Nat.add_zero] at h_); exact h_); have hf_1 : w201.frozen? ⟨go, (x5_1 : Int).toNat * 6 + 1, none⟩ = false := (by have h_ := hfr 1; (try simp only [show (k96).sz = 6 from rfl, Nat.mul_one, Nat.add_zero] at h_); exact h_); have hx_2 : w201.cell? ⟨go, (x5_1 : Int).toNat * 6 + 2, none⟩ = some (.int .i64 ((rd_T96 x0_1 x5_1).f2)) := (by have h_ := hcc 2 _ rfl; (try simp only [show (k96).sz = 6 from rfl, Nat.mul_one, Nat.add_zero] at h_); exact h_); have hf_2 : w201.frozen? ⟨go, (x5_1 : Int).toNat * 6 + 2, none⟩ = false := (by have h_ := hfr 2; (try simp only [show (k96).sz = 6 from rfl, Nat.mul_one, Nat.add_zero] at h_); exact h_); have hx_3 : w201.cell? ⟨go, (x5_1 : Int).toNat * 6 + 3, none⟩ = some (.int .i64 ((rd_T96 x0_1 x5_1).f3)) := (by have h_ := hcc 3 _ rfl; (try simp only [show (k96).sz = 6 from rfl, Nat.mul_one, Nat.add_zero] at h_); exact h_); have hf_3 : w201.frozen? ⟨go, (x5_1 : Int).toNat * 6 + 3, none⟩ = false := (by have h_ := hfr 3; (try simp only [show (k96).sz = 6 from rfl, Nat.mul_one, Nat.add_zero] at h_); exact h_); have hx_4 : w201.cell? ⟨go, (x5_1 : Int).toNat * 6 + 4, none⟩ = some (.int .i64 ((rd_T96 x0_1 x5_1).f4)) := (by have h_ := hcc 4 _ rfl; (try simp only [show (k96).sz = 6 from rfl, Nat.mul_one, Nat.add_zero] at h_); exact h_); have hf_4 : w201.frozen? ⟨go, (x5_1 : Int).toNat * 6 + 4, none⟩ = false := (by have h_ := hfr 4; (try simp only [show (k96).sz = 6 from rfl, Nat.mul_one, Nat.add_zero] at h_); exact h_); have hx_5 : w201.cell? ⟨go, (x5_1 : Int).toNat * 6 + 5, none⟩ = some ve := (by have h_ := hcc 5 _ rfl; (try simp only [show (k96).sz = 6 from rfl, Nat.mul_one, Nat.add_zero] at h_); exact h_); have hf_5 : w201.frozen? ⟨go, (x5_1 : Int).toNat * 6 + 5, none⟩ = false := (by have h_ := hfr 5; (try simp only [show (k96).sz = 6 from rfl, Nat.mul_one, Nat.add_zero] at h_); exact h_); clear hcc hfr) | ((with_reducible refine gate_store (t := 2) (p := 24) rfl ?_); refine store_event (t := 2) (p := 24) (v := ?vo_w202) (w1 := (w201.setCell ⟨go, (x5_1 : Int).toNat * 6 + 1, none⟩ (.int .i64 (wrap64 (x1_1 + 1))))) ?hg ?ho ?hn ?hr ?_; (case ho => rfl); (case hg => rfl); (case hn => rfl); (case hr => first | (go_simp; done) | (go_simp; rfl)); intro w202 hw; have q_ := hole_put HH.out (of_eq_true P5) (of_eq_true Q5) 1 (.int .i64 (wrap64 (x1_1 + 1))) (by decide) rfl; (try simp only [show (k96).sz = 6 from rfl, Nat.mul_one, Nat.add_zero] at q_); have hg : w201.grownBy w202 (some go) := (by rw [hw]; exact q_.2); have n0_ := Aside0.mk (show Kd.H k96 96 w202 w0.heap.size (fun k_ => P0_ k_) (.slice (some ⟨go, 0, none⟩) x0_1.length co) x0_1 x5_1 oki [(.string t100), (.int .i64 (wrap64 (x1_1 + 1))), (.int .i64 ((rd_T96 x0_1 x5_1).f2)), (.int .i64 ((rd_T96 x0_1 x5_1).f3)), (.int .i64 ((rd_T96 x0_1 x5_1).f4)), ve] from (by rw [hw]; exact q_.1)); have n1_ := Aside0.mk (show Kd.R (Kd.int .i64) 2 w202 w0.heap.size oki ve ((rd_T96 x0_1 x5_1).f5) from Kd.R_grown HE.out hg (fun k_ hk_ e_ => (HI.out k_ hk_).2 (Option.some.inj e_))); have n2_ := Aside0.mk (Kept.of_grown (S := (fun k_ => P0_ k_)) hg HK.out (fun k_ e_ => .inl (Option.some.inj e_ ▸ HP.out))); have n3_ := Aside0.mk ((by rw [hw]; exact below_set (HB.out) GB.out : Below w0.heap.size w0 w202)); clear hx_0 hf_0 hx_1 hf_1 hx_2 hf_2 hx_3 hf_3 hx_4 hf_4 hx_5 hf_5; clear HH HE HK HB hg hw q_; have HH := n0_; have HE := n1_; have HK := n2_; have HB := n3_; clear n0_ n1_ n2_ n3_; obtain ⟨hcc, hfr⟩ := hole_cells HH.out (of_eq_true P5) (of_eq_true Q5); have hx_0 : w202.cell? ⟨go, (x5_1 : Int).toNat * 6, none⟩ = some (.string t100) := (by have h_ := hcc 0 _ rfl; (try simp only [show (k96).sz = 6 from rfl, Nat.mul_one, Nat.add_zero] at h_); exact h_); have hf_0 : w202.frozen? ⟨go, (x5_1 : Int).toNat * 6, none⟩ = false := (by have h_ := hfr 0; (try simp only [show (k96).sz = 6 from rfl, Nat.mul_one, Nat.add_zero] at h_); exact h_); have hx_1 : w202.cell? ⟨go, (x5_1 : Int).toNat * 6 + 1, none⟩ = some (.int .i64 (wrap64 (x1_1 + 1))) := (by have h_ := hcc 1 _ rfl; (try simp only [show (k96).sz = 6 from rfl, Nat.mul_one, Nat.add_zero] at h_); exact h_); have hf_1 : w202.frozen? ⟨go, (x5_1 : Int).toNat * 6 + 1, none⟩ = false := (by have h_ := hfr 1; (try simp only [show (k96).sz = 6 from rfl, Nat.mul_one, Nat.add_zero] at h_); exact h_); have hx_2 : w202.cell? ⟨go, (x5_1 : Int).toNat * 6 + 2, none⟩ = some (.int .i64 ((rd_T96 x0_1 x5_1).f2)) := (by have h_ := hcc 2 _ rfl; (try simp only [show (k96).sz = 6 from rfl, Nat.mul_one, Nat.add_zero] at h_); exact h_); have hf_2 : w202.frozen? ⟨go, (x5_1 : Int).toNat * 6 + 2, none⟩ = false := (by have h_ := hfr 2; (try simp only [show (k96).sz = 6 from rfl, Nat.mul_one, Nat.add_zero] at h_); exact h_); have hx_3 : w202.cell? ⟨go, (x5_1 : Int).toNat * 6 + 3, none⟩ = some (.int .i64 ((rd_T96 x0_1 x5_1).f3)) := (by have h_ := hcc 3 _ rfl; (try simp only [show (k96).sz = 6 from rfl, Nat.mul_one, Nat.add_zero] at h_); exact h_); have hf_3 : w202.frozen? ⟨go, (x5_1 : Int).toNat * 6 + 3, none⟩ = false := (by have h_ := hfr 3; (try simp only [show (k96).sz = 6 from rfl, Nat.mul_one, Nat.add_zero] at h_); exact h_); have hx_4 : w202.cell? ⟨go, (x5_1 : Int).toNat * 6 + 4, none⟩ = some (.int .i64 ((rd_T96 x0_1 x5_1).f4)) := (by have h_ := hcc 4 _ rfl; (try simp only [show (k96).sz = 6 from rfl, Nat.mul_one, Nat.add_zero] at h_); exact h_); have hf_4 : w202.frozen? ⟨go, (x5_1 : Int).toNat * 6 + 4, none⟩ = false := (by have h_ := hfr 4; (try simp only [show (k96).sz = 6 from rfl, Nat.mul_one, Nat.add_zero] at h_); exact h_); have hx_5 : w202.cell? ⟨go, (x5_1 : Int).toNat * 6 + 5, none⟩ = some ve := (by have h_ := hcc 5 _ rfl; (try simp only [show (k96).sz = 6 from rfl, Nat.mul_one, Nat.add_zero] at h_); exact h_); have hf_5 : w202.frozen? ⟨go, (x5_1 : Int).toNat * 6 + 5, none⟩ = false := (by have h_ := hfr 5; (try simp only [show (k96).sz = 6 from rfl, Nat.mul_one, Nat.add_zero] at h_); exact h_); clear hcc hfr) | ((with_reducible refine gate_store (t := 2) (p := 31) rfl ?_); refine store_event (t := 2) (p := 31) (v := ?vo_w203) (w1 := (w202.setCell ⟨go, (x5_1 : Int).toNat * 6 + 2, none⟩ (.int .i64 (wrap64 ((wrap64 (x1_1 + 1)) + 1))))) ?hg ?ho ?hn ?hr ?_; (case ho => rfl); (case hg => rfl); (case hn => rfl); (case hr => first | (go_simp; done) | (go_simp; rfl)); intro w203 hw; have q_ := hole_put HH.out (of_eq_true P5) (of_eq_true Q5) 2 (.int .i64 (wrap64 ((wrap64 (x1_1 + 1)) + 1))) (by decide) rfl; (try simp only [show (k96).sz = 6 from rfl, Nat.mul_one, Nat.add_zero] at q_); have hg : w202.grownBy w203 (some go) := (by rw [hw]; exact q_.2); have n0_ := Aside0.mk (show Kd.H k96 96 w203 w0.heap.size (fun k_ => P0_ k_) (.slice (some ⟨go, 0, none⟩) x0_1.length co) x0_1 x5_1 oki [(.string t100), (.int .i64 (wrap64 (x1_1 + 1))), (.int .i64 (wrap64 ((wrap64 (x1_1 + 1)) + 1))), (.int .i64 ((rd_T96 x0_1 x5_1).f3)), (.int .i64 ((rd_T96 x0_1 x5_1).f4)), ve] from (by rw [hw]; exact q_.1)); have n1_ := Aside0.mk (show Kd.R (Kd.int .i64) 2 w203 w0.heap.size oki ve ((rd_T96 x0_1 x5_1).f5) from Kd.R_grown HE.out hg (fun k_ hk_ e_ => (HI.out k_ hk_).2 (Option.some.inj e_))); have n2_ := Aside0.mk (Kept.of_grown (S := (fun k_ => P0_ k_)) hg HK.out (fun k_ e_ => .inl (Option.some.inj e_ ▸ HP.out))); have n3_ := Aside0.mk ((by rw [hw]; exact below_set (HB.out) GB.out : Below w0.heap.size w0 w203)); clear hx_0 hf_0 hx_1 hf_1 hx_2 hf_2 hx_3 hf_3 hx_4 hf_4 hx_5 hf_5; clear HH HE HK HB hg hw q_; have HH := n0_; have HE := n1_; have HK := n2_; have HB := n3_; clear n0_ n1_ n2_ n3_; obtain ⟨hcc, hfr⟩ := hole_cells HH.out (of_eq_true P5) (of_eq_true Q5); have hx_0 : w203.cell? ⟨go, (x5_1 : Int).toNat * 6, none⟩ = some (.string t100) := (by have h_ := hcc 0 _ rfl; (try simp only [show (k96).sz = 6 from rfl, Nat.mul_one, Nat.add_zero] at h_); exact h_); have hf_0 : w203.frozen? ⟨go, (x5_1 : Int).toNat * 6, none⟩ = false := (by have h_ := hfr 0; (try simp only [show (k96).sz = 6 from rfl, Nat.mul_one, Nat.add_zero] at h_); exact h_); have hx_1 : w203.cell? ⟨go, (x5_1 : Int).toNat * 6 + 1, none⟩ = some (.int .i64 (wrap64 (x1_1 + 1))) := (by have h_ := hcc 1 _ rfl; (try simp only [show (k96).sz = 6 from rfl, Nat.mul_one, Nat.add_zero] at h_); exact h_); have hf_1 : w203.frozen? ⟨go, (x5_1 : Int).toNat * 6 + 1, none⟩ = false := (by have h_ := hfr 1; (try simp only [show (k96).sz = 6 from rfl, Nat.mul_one, Nat.add_zero] at h_); exact h_); have hx_2 : w203.cell? ⟨go, (x5_1 : Int).toNat * 6 + 2, none⟩ = some (.int .i64 (wrap64 ((wrap64 (x1_1 + 1)) + 1))) := (by have h_ := hcc 2 _ rfl; (try simp only [show (k96).sz = 6 from rfl, Nat.mul_one, Nat.add_zero] at h_); exact h_); have hf_2 : w203.frozen? ⟨go, (x5_1 : Int).toNat * 6 + 2, none⟩ = false := (by have h_ := hfr 2; (try simp only [show (k96).sz = 6 from rfl, Nat.mul_one, Nat.add_zero] at h_); exact h_); have hx_3 : w203.cell? ⟨go, (x5_1 : Int).toNat * 6 + 3, none⟩ = some (.int .i64 ((rd_T96 x0_1 x5_1).f3)) := (by have h_ := hcc 3 _ rfl; (try simp only [show (k96).sz = 6 from rfl, Nat.mul_one, Nat.add_zero] at h_); exact h_); have hf_3 : w203.frozen? ⟨go, (x5_1 : Int).toNat * 6 + 3, none⟩ = false := (by have h_ := hfr 3; (try simp only [show (k96).sz = 6 from rfl, Nat.mul_one, Nat.add_zero] at h_); exact h_); have hx_4 : w203.cell? ⟨go, (x5_1 : Int).toNat * 6 + 4, none⟩ = some (.int .i64 ((rd_T96 x0_1 x5_1).f4)) := (by have h_ := hcc 4 _ rfl; (try simp only [show (k96).sz = 6 from rfl, Nat.mul_one, Nat.add_zero] at h_); exact h_); have hf_4 : w203.frozen? ⟨go, (x5_1 : Int).toNat * 6 + 4, none⟩ = false := (by have h_ := hfr 4; (try simp only [show (k96).sz = 6 from rfl, Nat.mul_one, Nat.add_zero] at h_); exact h_); have hx_5 : w203.cell? ⟨go, (x5_1 : Int).toNat * 6 + 5, none⟩ = some ve := (by have h_ := hcc 5 _ rfl; (try simp only [show (k96).sz = 6 from rfl, Nat.mul_one, Nat.add_zero] at h_); exact h_); have hf_5 : w203.frozen? ⟨go, (x5_1 : Int).toNat * 6 + 5, none⟩ = false := (by have h_ := hfr 5; (try simp only [show (k96).sz = 6 from rfl, Nat.mul_one, Nat.add_zero] at h_); exact h_); clear hcc hfr) | ((with_reducible refine gate_store (t := 2) (p := 38) rfl ?_); refine store_event (t := 2) (p := 38) (v := ?vo_w204) (w1 := (w203.setCell ⟨go, (x5_1 : Int).toNat * 6 + 3, none⟩ (.int .i64 (wrap64 ((wrap64 ((wrap64 (x1_1 + 1)) + 1)) + 1))))) ?hg ?ho ?hn ?hr ?_; (case ho => rfl); (case hg => rfl); (case hn => rfl); (case hr => first | (go_simp; done) | (go_simp; rfl)); intro w204 hw; have q_ := hole_put HH.out (of_eq_true P5) (of_eq_true Q5) 3 (.int .i64 (wrap64 ((wrap64 ((wrap64 (x1_1 + 1)) + 1)) + 1))) (by decide) rfl; (try simp only [show (k96).sz = 6 from rfl, Nat.mul_one, Nat.add_zero] at q_); have hg : w203.grownBy w204 (some go) := (by rw [hw]; exact q_.2); have n0_ := Aside0.mk (show Kd.H k96 96 w204 w0.heap.size (fun k_ => P0_ k_) (.slice (some ⟨go, 0, none⟩) x0_1.length co) x0_1 x5_1 oki [(.string t100), (.int .i64 (wrap64 (x1_1 + 1))), (.int .i64 (wrap64 ((wrap64 (x1_1 + 1)) + 1))), (.int .i64 (wrap64 ((wrap64 ((wrap64 (x1_1 + 1)) + 1)) + 1))), (.int .i64 ((rd_T96 x0_1 x5_1).f4)), ve] from (by rw [hw]; exact q_.1)); have n1_ := Aside0.mk (show Kd.R (Kd.int .i64) 2 w204 w0.heap.size oki ve ((rd_T96 x0_1 x5_1).f5) from Kd.R_grown HE.out hg (fun k_ hk_ e_ => (HI.out k_ hk_).2 (Option.some.inj e_))); have n2_ := Aside0.mk (Kept.of_grown (S := (fun k_ => P0_ k_)) hg HK.out (fun k_ e_ => .inl (Option.some.inj e_ ▸ HP.out))); have n3_ := Aside0.mk ((by rw [hw]; exact below_set (HB.out) GB.out : Below w0.heap.size w0 w204)); clear hx_0 hf_0 hx_1 hf_1 hx_2 hf_2 hx_3 hf_3 hx_4 hf_4 hx_5 hf_5; clear HH HE HK HB hg hw q_; have HH := n0_; have HE := n1_; have HK := n2_; have HB := n3_; clear n0_ n1_ n2_ n3_; obtain ⟨hcc, hfr⟩ := hole_cells HH.out (of_eq_true P5) (of_eq_true Q5); have hx_0 : w204.cell? ⟨go, (x5_1 : Int).toNat * 6, none⟩ = some (.string t100) := (by have h_ := hcc 0 _ rfl; (try simp only [show (k96).sz = 6 from rfl, Nat.mul_one, Nat.add_zero] at h_); exact h_); have hf_0 : w204.frozen? ⟨go, (x5_1 : Int).toNat * 6, none⟩ = false := (by have h_ := hfr 0; (try simp only [show (k96).sz = 6 from rfl, Nat.mul_one, Nat.add_zero] at h_); exact h_); have hx_1 : w204.cell? ⟨go, (x5_1 : Int).toNat * 6 + 1, none⟩ = some (.int .i64 (wrap64 (x1_1 + 1))) := (by have h_ := hcc 1 _ rfl; (try simp only [show (k96).sz = 6 from rfl, Nat.mul_one, Nat.add_zero] at h_); exact h_); have hf_1 : w204.frozen? ⟨go, (x5_1 : Int).toNat * 6 + 1, none⟩ = false := (by have h_ := hfr 1; (try simp only [show (k96).sz = 6 from rfl, Nat.mul_one, Nat.add_zero] at h_); exact h_); have hx_2 : w204.cell? ⟨go, (x5_1 : Int).toNat * 6 + 2, none⟩ = some (.int .i64 (wrap64 ((wrap64 (x1_1 + 1)) + 1))) := (by have h_ := hcc 2 _ rfl; (try simp only [show (k96).sz = 6 from rfl, Nat.mul_one, Nat.add_zero] at h_); exact h_); have hf_2 : w204.frozen? ⟨go, (x5_1 : Int).toNat * 6 + 2, none⟩ = false := (by have h_ := hfr 2; (try simp only [show (k96).sz = 6 from rfl, Nat.mul_one, Nat.add_zero] at h_); exact h_); have hx_3 : w204.cell? ⟨go, (x5_1 : Int).toNat * 6 + 3, none⟩ = some (.int .i64 (wrap64 ((wrap64 ((wrap64 (x1_1 + 1)) + 1)) + 1))) := (by have h_ := hcc 3 _ rfl; (try simp only [show (k96).sz = 6 from rfl, Nat.mul_one, Nat.add_zero] at h_); exact h_); have hf_3 : w204.frozen? ⟨go, (x5_1 : Int).toNat * 6 + 3, none⟩ = false := (by have h_ := hfr 3; (try simp only [show (k96).sz = 6 from rfl, Nat.mul_one, Nat.add_zero] at h_); exact h_); have hx_4 : w204.cell? ⟨go, (x5_1 : Int).toNat * 6 + 4, none⟩ = some (.int .i64 ((rd_T96 x0_1 x5_1).f4)) := (by have h_ := hcc 4 _ rfl; (try simp only [show (k96).sz = 6 from rfl, Nat.mul_one, Nat.add_zero] at h_); exact h_); have hf_4 : w204.frozen? ⟨go, (x5_1 : Int).toNat * 6 + 4, none⟩ = false := (by have h_ := hfr 4; (try simp only [show (k96).sz = 6 from rfl, Nat.mul_one, Nat.add_zero] at h_); exact h_); have hx_5 : w204.cell? ⟨go, (x5_1 : Int).toNat * 6 + 5, none⟩ = some ve := (by have h_ := hcc 5 _ rfl; (try simp only [show (k96).sz = 6 from rfl, Nat.mul_one, Nat.add_zero] at h_); exact h_); have hf_5 : w204.frozen? ⟨go, (x5_1 : Int).toNat * 6 + 5, none⟩ = false := (by have h_ := hfr 5; (try simp only [show (k96).sz = 6 from rfl, Nat.mul_one, Nat.add_zero] at h_); exact h_); clear hcc hfr) | ((with_reducible refine gate_store (t := 2) (p := 45) rfl ?_); refine store_event (t := 2) (p := 45) (v := ?vo_w205) (w1 := (w204.setCell ⟨go, (x5_1 : Int).toNat * 6 + 4, none⟩ (.int .i64 (wrap64 ((wrap64 ((wrap64 ((wrap64 (x1_1 + 1)) + 1)) + 1)) + 1))))) ?hg ?ho ?hn ?hr ?_; (case ho => rfl); (case hg => rfl); (case hn => rfl); (case hr => first | (go_simp; done) | (go_simp; rfl)); intro w205 hw; have q_ := hole_put HH.out (of_eq_true P5) (of_eq_true Q5) 4 (.int .i64 (wrap64 ((wrap64 ((wrap64 ((wrap64 (x1_1 + 1)) + 1)) + 1)) + 1))) (by decide) rfl; (try simp only [show (k96).sz = 6 from rfl, Nat.mul_one, Nat.add_zero] at q_); have hg : w204.grownBy w205 (some go) := (by rw [hw]; exact q_.2); have n0_ := Aside0.mk (show Kd.H k96 96 w205 w0.heap.size (fun k_ => P0_ k_) (.slice (some ⟨go, 0, none⟩) x0_1.length co) x0_1 x5_1 oki [(.string t100), (.int .i64 (wrap64 (x1_1 + 1))), (.int .i64 (wrap64 ((wrap64 (x1_1 + 1)) + 1))), (.int .i64 (wrap64 ((wrap64 ((wrap64 (x1_1 + 1)) + 1)) + 1))), (.int .i64 (wrap64 ((wrap64 ((wrap64 ((wrap64 (x1_1 + 1)) + 1)) + 1)) + 1))), ve] from (by rw [hw]; exact q_.1)); have n1_ := Aside0.mk (show Kd.R (Kd.int .i64) 2 w205 w0.heap.size oki ve ((rd_T96 x0_1 x5_1).f5) from Kd.R_grown HE.out hg (fun k_ hk_ e_ => (HI.out k_ hk_).2 (Option.some.inj e_))); have n2_ := Aside0.mk (Kept.of_grown (S := (fun k_ => P0_ k_)) hg HK.out (fun k_ e_ => .inl (Option.some.inj e_ ▸ HP.out))); have n3_ := Aside0.mk ((by rw [hw]; exact below_set (HB.out) GB.out : Below w0.heap.size w0 w205)); clear hx_0 hf_0 hx_1 hf_1 hx_2 hf_2 hx_3 hf_3 hx_4 hf_4 hx_5 hf_5; clear HH HE HK HB hg hw q_; have HH := n0_; have HE := n1_; have HK := n2_; have HB := n3_; clear n0_ n1_ n2_ n3_; obtain ⟨hcc, hfr⟩ := hole_cells HH.out (of_eq_true P5) (of_eq_true Q5); have hx_0 : w205.cell? ⟨go, (x5_1 : Int).toNat * 6, none⟩ = some (.string t100) := (by have h_ := hcc 0 _ rfl; (try simp only [show (k96).sz = 6 from rfl, Nat.mul_one, Nat.add_zero] at h_); exact h_); have hf_0 : w205.frozen? ⟨go, (x5_1 : Int).toNat * 6, none⟩ = false := (by have h_ := hfr 0; (try simp only [show (k96).sz = 6 from rfl, Nat.mul_one, Nat.add_zero] at h_); exact h_); have hx_1 : w205.cell? ⟨go, (x5_1 : Int).toNat * 6 + 1, none⟩ = some (.int .i64 (wrap64 (x1_1 + 1))) := (by have h_ := hcc 1 _ rfl; (try simp only [show (k96).sz = 6 from rfl, Nat.mul_one, Nat.add_zero] at h_); exact h_); have hf_1 : w205.frozen? ⟨go, (x5_1 : Int).toNat * 6 + 1, none⟩ = false := (by have h_ := hfr 1; (try simp only [show (k96).sz = 6 from rfl, Nat.mul_one, Nat.add_zero] at h_); exact h_); have hx_2 : w205.cell? ⟨go, (x5_1 : Int).toNat * 6 + 2, none⟩ = some (.int .i64 (wrap64 ((wrap64 (x1_1 + 1)) + 1))) := (by have h_ := hcc 2 _ rfl; (try simp only [show (k96).sz = 6 from rfl, Nat.mul_one, Nat.add_zero] at h_); exact h_); have hf_2 : w205.frozen? ⟨go, (x5_1 : Int).toNat * 6 + 2, none⟩ = false := (by have h_ := hfr 2; (try simp only [show (k96).sz = 6 from rfl, Nat.mul_one, Nat.add_zero] at h_); exact h_); have hx_3 : w205.cell? ⟨go, (x5_1 : Int).toNat * 6 + 3, none⟩ = some (.int .i64 (wrap64 ((wrap64 ((wrap64 (x1_1 + 1)) + 1)) + 1))) := (by have h_ := hcc 3 _ rfl; (try simp only [show (k96).sz = 6 from rfl, Nat.mul_one, Nat.add_zero] at h_); exact h_); have hf_3 : w205.frozen? ⟨go, (x5_1 : Int).toNat * 6 + 3, none⟩ = false := (by have h_ := hfr 3; (try simp only [show (k96).sz = 6 from rfl, Nat.mul_one, Nat.add_zero] at h_); exact h_); have hx_4 : w205.cell? ⟨go, (x5_1 : Int).toNat * 6 + 4, none⟩ = some (.int .i64 (wrap64 ((wrap64 ((wrap64 ((wrap64 (x1_1 + 1)) + 1)) + 1)) + 1))) := (by have h_ := hcc 4 _ rfl; (try simp only [show (k96).sz = 6 from rfl, Nat.mul_one, Nat.add_zero] at h_); exact h_); have hf_4 : w205.frozen? ⟨go, (x5_1 : Int).toNat * 6 + 4, none⟩ = false := (by have h_ := hfr 4; (try simp only [show (k96).sz = 6 from rfl, Nat.mul_one, Nat.add_zero] at h_); exact h_); have hx_5 : w205.cell? ⟨go, (x5_1 : Int).toNat * 6 + 5, none⟩ = some ve := (by have h_ := hcc 5 _ rfl; (try simp only [show (k96).sz = 6 from rfl, Nat.mul_one, Nat.add_zero] at h_); exact h_); have hf_5 : w205.frozen? ⟨go, (x5_1 : Int).toNat * 6 + 5, none⟩ = false := (by have h_ := hfr 5; (try simp only [show (k96).sz = 6 from rfl, Nat.mul_one, Nat.add_zero] at h_); exact h_); clear hcc hfr) | ((with_reducible refine gate_callee (f := 31) rfl ?_); refine goesL_ (some 54) rfl rfl Try.func31 (by kernel_rfl) rfl #[ve, .int .i64 (wrap64 ((wrap64 ((wrap64 ((wrap64 ((wrap64 (x1_1 + 1)) + 1)) + 1)) + 1)) + 1))] rfl (by (try simp only [List.map_toArray, List.map_cons, List.map_nil]); first | done | rfl) ?_; (with_reducible refine (laws_markInt64S.calls k1 oki ve ((rd_T96 x0_1 x5_1).f5) (wrap64 ((wrap64 ((wrap64 ((wrap64 ((wrap64 (x1_1 + 1)) + 1)) + 1)) + 1)) + 1)) t190 t191 w0 _ HB.out HE.out AL.out).mono ?_); rintro e w206 ⟨rfl, hy0, hb, hkp⟩; refine ⟨_, rfl, ?_⟩; have hR_ := Kd.R_reok (ok := oki) rfl hy0 (fun k_ e_ => HE.out.1 k_ e_); have n0_ := Aside0.mk (show Kd.S k96 96 w206 w0.heap.size (fun k_ => P0_ k_) (.slice (some ⟨go, 0, none⟩) x0_1.length co) (x0_1.set (x5_1 : Int).toNat (⟨t100, wrap64 (x1_1 + 1), wrap64 ((wrap64 (x1_1 + 1)) + 1), wrap64 ((wrap64 ((wrap64 (x1_1 + 1)) + 1)) + 1), wrap64 ((wrap64 ((wrap64 ((wrap64 (x1_1 + 1)) + 1)) + 1)) + 1), t191⟩ : S96)) from Kd.H_back (Kd.H_kept HH.out hkp (fun k_ _ hn_ hs_ => hn_ hs_)) (okp := oki) (k96_mkM w206 w0.heap.size oki (⟨t100, wrap64 (x1_1 + 1), wrap64 ((wrap64 (x1_1 + 1)) + 1), wrap64 ((wrap64 ((wrap64 (x1_1 + 1)) + 1)) + 1), wrap64 ((wrap64 ((wrap64 ((wrap64 (x1_1 + 1)) + 1)) + 1)) + 1), t191⟩ : S96) hR_) (fun _ hk => hk)); have n2_ := Aside0.mk (Kept.then_ (S := (fun k_ => P0_ k_)) HK.out hkp (fun k_ hs_ => .inl (HI.out k_ hs_).1)); have n3_ := Aside0.mk hb; clear HH HE HK HB hb hy0 hkp hR_; have HO_0 := n0_; have HK := n2_; have HB := n3_; clear n0_ n2_ n3_; clear hx_0 hf_0 hx_1 hf_1 hx_2 hf_2 hx_3 hf_3 hx_4 hf_4 hx_5 hf_5))
          go_roundg k1
          case measure => have := HK1.out; omega
          case rel => exact ⟨_, t190, (wrap64 (x5_1 + 1)), (by first | rfl | (simp; done) | (simp [*]; done)), (by first | rfl | (simp; done) | (simp [*]; done)), H', ⟨by have := HK1.out; omega⟩, ⟨by (with_reducible repeat (first | apply Kd.S_alloc | apply Kd.S_drewN | apply Kd.S_drew)); exact HO_0.out⟩, ⟨by repeat (first | (with_reducible first | exact HK.out | apply Kept.alloc | apply Kept.drewN | apply Kept.drew) | exact HK.out)⟩, ⟨by repeat (first | (with_reducible first | exact HB.out | apply below_alloc | apply pw_below_drewN | apply below_drew1) | exact HB.out)⟩⟩
        · rw [if_neg c4] at H
          exact absurd H (by simp)
      · rw [if_neg c3] at H
        have c3b0 : decide (x5_1 < (x0_1.length : Int)) = false := decide_eq_false c3
        clear c3
        simp only [Option.some.injEq, Prod.mk.injEq] at H
        obtain ⟨rfl, rfl⟩ := H
        obtain ⟨Ao, co, eo⟩ := Kd.S_slice HO_0.out
        subst eo
        go_wp2
        go_ret
        exact ⟨by first | rfl | (simp; done) | (simp [*]; done), by (with_reducible repeat (first | apply Kd.S_alloc | apply Kd.S_drewN | apply Kd.S_drew)); exact HO_0.out, by repeat (first | (with_reducible first | exact HB.out | apply below_alloc | apply pw_below_drewN | apply below_drew1) | exact HB.out), by repeat (first | (with_reducible first | exact HK.out | apply Kept.alloc | apply Kept.drewN | apply Kept.drew) | exact HK.out)⟩

/-! ### spec_l00In: function 97 -/
def spec_l00In.f (a0 : Int) (a1 : Int) (a2 : Int) : Option (Bool) := if a0 ≥ a1 then (some (decide (a0 ≤ a2))) else (some false)
set_option maxHeartbeats 8000000 in
set_option maxRecDepth 100000 in
theorem spec_l00In.calls (a0 : Int) (a1 : Int) (a2 : Int) (r : Bool) (w : World) (h : spec_l00In.f a0 a1 a2 = some r) :
    Calls Try.prog 97 #[.int .i64 a0, .int .i64 a1, .int .i64 a2] w fun e w' => e = .returned (.bool r) ∧ Drawn0 w w' := by
  have H : (if a0 ≥ a1 then (some (decide (a0 ≤ a2))) else (some false)) = some r := h
  clear h
  by_cases c4 : a0 ≥ a1
  · rw [if_pos c4] at H
    have c4b0 : decide (a1 ≤ a0) = true := decide_eq_true c4
    clear c4
    obtain rfl := Option.some.inj H
    go_enter Try.func97, Try.ntmps97
    go_wp2
    go_ret
    exact ⟨by first | rfl | (simp; done) | (simp [*]; done), by repeat (first | exact Drawn0.refl _ | apply Drawn0.step)⟩
  · rw [if_neg c4] at H
    have c4b0 : decide (a1 ≤ a0) = false := decide_eq_false c4
    clear c4
    obtain rfl := Option.some.inj H
    go_enter Try.func97, Try.ntmps97
    go_wp2
    go_ret
    exact ⟨by first | rfl | (simp; done) | (simp [*]; done), by repeat (first | exact Drawn0.refl _ | apply Drawn0.step)⟩

/-! ### spec_l05Outdoor: function 137 -/
def spec_l05Outdoor.f (a0 : Int) : Option (Bool) := (spec_l00In.f a0 (-4000) 4500).bind fun t142 => (some t142)
set_option maxHeartbeats 8000000 in
set_option maxRecDepth 100000 in
theorem spec_l05Outdoor.calls (a0 : Int) (r : Bool) (w : World) (h : spec_l05Outdoor.f a0 = some r) :
    Calls Try.prog 137 #[.int .i64 a0] w fun e w' => e = .returned (.bool r) ∧ Drawn0 w w' := by
  have H : ((spec_l00In.f a0 (-4000) 4500).bind fun t142 => (some t142)) = some r := h
  clear h
  replace H := Option.bind_eq_some_iff.mp H
  obtain ⟨t142, A20, H⟩ := H
  replace H : (some t142) = some r := H
  have A2 := Aside0.mk A20
  clear A20
  obtain rfl := Option.some.inj H
  go_enter Try.func137, Try.ntmps137
  go_wp2_with (first | ((with_reducible refine gate_callee (f := 97) rfl ?_); refine goesL_ (some 4) rfl rfl Try.func97 (by kernel_rfl) rfl #[.int .i64 a0, .int .i64 (-4000), .int .i64 4500] rfl (by (try simp only [List.map_toArray, List.map_cons, List.map_nil]); first | done | rfl | (simp only [List.length_drop, List.length_take]; rfl)) ?_; (with_reducible refine (spec_l00In.calls a0 (-4000) 4500 t142 _ A2.out).mono ?_); rintro e w' ⟨rfl, ⟨nd, rfl⟩⟩; refine ⟨_, rfl, ?_⟩))
  go_ret
  exact ⟨by first | rfl | (simp; done) | (simp [*]; done), by repeat (first | exact Drawn0.refl _ | apply Drawn0.step)⟩

/-! ### spec_l01Small: function 205 -/
def spec_l01Small.f (a0 : Int) : Option (Bool) := if a0 ≥ 97 then (some (decide (a0 ≤ 122))) else (some false)
set_option maxHeartbeats 8000000 in
set_option maxRecDepth 100000 in
theorem spec_l01Small.calls (a0 : Int) (r : Bool) (w : World) (h : spec_l01Small.f a0 = some r) :
    Calls Try.prog 205 #[.int .u8 a0] w fun e w' => e = .returned (.bool r) ∧ Drawn0 w w' := by
  have H : (if a0 ≥ 97 then (some (decide (a0 ≤ 122))) else (some false)) = some r := h
  clear h
  by_cases c2 : a0 ≥ 97
  · rw [if_pos c2] at H
    have c2b0 : decide (97 ≤ a0) = true := decide_eq_true c2
    clear c2
    obtain rfl := Option.some.inj H
    go_enter Try.func205, Try.ntmps205
    go_wp2
    go_ret
    exact ⟨by first | rfl | (simp; done) | (simp [*]; done), by repeat (first | exact Drawn0.refl _ | apply Drawn0.step)⟩
  · rw [if_neg c2] at H
    have c2b0 : decide (97 ≤ a0) = false := decide_eq_false c2
    clear c2
    obtain rfl := Option.some.inj H
    go_enter Try.func205, Try.ntmps205
    go_wp2
    go_ret
    exact ⟨by first | rfl | (simp; done) | (simp [*]; done), by repeat (first | exact Drawn0.refl _ | apply Drawn0.step)⟩

/-! ### spec_l01Digit: function 206 -/
def spec_l01Digit.f (a0 : Int) : Option (Bool) := if a0 ≥ 48 then (some (decide (a0 ≤ 57))) else (some false)
set_option maxHeartbeats 8000000 in
set_option maxRecDepth 100000 in
theorem spec_l01Digit.calls (a0 : Int) (r : Bool) (w : World) (h : spec_l01Digit.f a0 = some r) :
    Calls Try.prog 206 #[.int .u8 a0] w fun e w' => e = .returned (.bool r) ∧ Drawn0 w w' := by
  have H : (if a0 ≥ 48 then (some (decide (a0 ≤ 57))) else (some false)) = some r := h
  clear h
  by_cases c2 : a0 ≥ 48
  · rw [if_pos c2] at H
    have c2b0 : decide (48 ≤ a0) = true := decide_eq_true c2
    clear c2
    obtain rfl := Option.some.inj H
    go_enter Try.func206, Try.ntmps206
    go_wp2
    go_ret
    exact ⟨by first | rfl | (simp; done) | (simp [*]; done), by repeat (first | exact Drawn0.refl _ | apply Drawn0.step)⟩
  · rw [if_neg c2] at H
    have c2b0 : decide (48 ≤ a0) = false := decide_eq_false c2
    clear c2
    obtain rfl := Option.some.inj H
    go_enter Try.func206, Try.ntmps206
    go_wp2
    go_ret
    exact ⟨by first | rfl | (simp; done) | (simp [*]; done), by repeat (first | exact Drawn0.refl _ | apply Drawn0.step)⟩

/-! ### spec_l01Name: function 186 -/
mutual
def spec_l01Name.j0 : Nat → ByteArray → Bool → Option (Bool)
  | 0, _, _ => none
  | k + 1, x0, x16 => if x16 = true then (some false) else (spec_l01Name.l0 k x0 0)
def spec_l01Name.l0 : Nat → ByteArray → Int → Option (Bool)
  | 0, _, _ => none
  | k + 1, x0, x3 => if x3 < (x0.size : Int) then (if 0 ≤ x3 then ((spec_l01Small.f (bt x0 x3)).bind fun t144 => (if t144 = true then (spec_l01Name.l0 k x0 (wrap64 (x3 + 1))) else ((spec_l01Digit.f (bt x0 x3)).bind fun t145 => (if t145 = true then (spec_l01Name.l0 k x0 (wrap64 (x3 + 1))) else (some false))))) else (none)) else (some true)
end
def spec_l01Name.f (k : Nat) (a0 : ByteArray) : Option (Bool) := if a0.toList = ([] : List UInt8) then (spec_l01Name.j0 k a0 true) else (if (a0.size : Int) > 10 then (spec_l01Name.j0 k a0 true) else (if 0 < (a0.size : Int) then ((spec_l01Small.f (bt a0 0)).bind fun t143 => (spec_l01Name.j0 k a0 (!t143))) else (none)))
theorem spec_l01Name.mono_l : ∀ k, (∀ y0 y1, LeO (spec_l01Name.j0 k y0 y1) (spec_l01Name.j0 (k + 1) y0 y1)) ∧ (∀ y0 y1, LeO (spec_l01Name.l0 k y0 y1) (spec_l01Name.l0 (k + 1) y0 y1))
  | 0 => ⟨fun _ _ r h => by simp [spec_l01Name.j0] at h, fun _ _ r h => by simp [spec_l01Name.l0] at h⟩
  | k + 1 => by
    obtain ⟨ih0, ih1⟩ := spec_l01Name.mono_l k
    refine ⟨?_, ?_⟩
    · intro y0 y1
      unfold spec_l01Name.j0
      repeat' first
      | (with_reducible exact ih0 _ _)
      | (with_reducible exact ih1 _ _)
      | (with_reducible exact LeO.refl _)
      | (with_reducible exact LeO.none _)
      | (with_reducible refine LeO.ite ?_ ?_)
      | (with_reducible refine LeO.bind ?_ (fun _ => ?_))
      | exact ih0 _ _
      | exact ih1 _ _
      | exact LeO.none _
      | refine LeO.ite ?_ ?_
      | refine LeO.bind ?_ (fun _ => ?_)
    · intro y0 y1
      unfold spec_l01Name.l0
      repeat' first
      | (with_reducible exact ih0 _ _)
      | (with_reducible exact ih1 _ _)
      | (with_reducible exact LeO.refl _)
      | (with_reducible exact LeO.none _)
      | (with_reducible refine LeO.ite ?_ ?_)
      | (with_reducible refine LeO.bind ?_ (fun _ => ?_))
      | exact ih0 _ _
      | exact ih1 _ _
      | exact LeO.none _
      | refine LeO.ite ?_ ?_
      | refine LeO.bind ?_ (fun _ => ?_)
theorem spec_l01Name.mono : ∀ a0 k, LeO (spec_l01Name.f k a0) (spec_l01Name.f (k + 1) a0) := by
  intro a0 k
  obtain ⟨ih0, ih1⟩ := spec_l01Name.mono_l k
  unfold spec_l01Name.f
  repeat' first
      | (with_reducible exact ih0 _ _)
      | (with_reducible exact ih1 _ _)
      | (with_reducible exact LeO.refl _)
      | (with_reducible exact LeO.none _)
      | (with_reducible refine LeO.ite ?_ ?_)
      | (with_reducible refine LeO.bind ?_ (fun _ => ?_))
      | exact ih0 _ _
      | exact ih1 _ _
      | exact LeO.none _
      | refine LeO.ite ?_ ?_
      | refine LeO.bind ?_ (fun _ => ?_)
set_option maxHeartbeats 8000000 in
set_option maxRecDepth 100000 in
theorem spec_l01Name.calls (k : Nat) (a0 : ByteArray) (r : Bool) (w : World) (h : spec_l01Name.f k a0 = some r) :
    Calls Try.prog 186 #[.string a0] w fun e w' => e = .returned (.bool r) ∧ Drawn0 w w' := by
  have H : (if a0.toList = ([] : List UInt8) then (spec_l01Name.j0 k a0 true) else (if (a0.size : Int) > 10 then (spec_l01Name.j0 k a0 true) else (if 0 < (a0.size : Int) then ((spec_l01Small.f (bt a0 0)).bind fun t143 => (spec_l01Name.j0 k a0 (!t143))) else (none)))) = some r := h
  clear h
  have HC2 := Aside0.mk H
  clear H
  go_enter Try.func186, Try.ntmps186
  go_upto_region 1 with (fail)
  go_cut [16] (fun v16 wc => ∃ (kq : Nat) (x16_1 : Bool), v16 = .bool x16_1 ∧ Aside0 (spec_l01Name.j0 kq a0 x16_1 = some r) ∧ Aside0 (kq ≤ k) ∧ Drawn0 w wc)
  case first =>
    have H := HC2.out
    clear HC2
    by_cases c3 : a0.toList = ([] : List UInt8)
    · rw [if_pos c3] at H
      have c3b0 : (a0.toList == ([] : List UInt8)) = true := beq_iff_eq.mpr c3
      have c3b1 : (a0.toList != ([] : List UInt8)) = false := bne_eq_false_iff_eq.mpr c3
      clear c3
      (first | rw [c3b0] | (simp only [i64_w, i32_w]; rw [c3b0]) | skip)
      have H' := Aside0.mk H
      clear H
      go_wp2
      go_meet
      case rel => exact ⟨_, (true), (by first | rfl | (simp; done) | (simp [*]; done)), H', ⟨by first | omega | exact Nat.le_refl _⟩, by repeat (first | exact Drawn0.refl _ | apply Drawn0.step)⟩
    · rw [if_neg c3] at H
      have c3b0 : (a0.toList == ([] : List UInt8)) = false := beq_eq_false_iff_ne.mpr c3
      have c3b1 : (a0.toList != ([] : List UInt8)) = true := bne_iff_ne.mpr c3
      (first | rw [c3b0] | (simp only [i64_w, i32_w]; rw [c3b0]) | skip)
      by_cases c4 : (a0.size : Int) > 10
      · rw [if_pos c4] at H
        have c4b0 : decide (10 < (a0.size : Int)) = true := decide_eq_true c4
        have c4b1 : decide (10 < a0.size) = true := decide_eq_true (by omega)
        clear c4
        have H' := Aside0.mk H
        clear H
        go_wp2
        go_meet
        case rel => exact ⟨_, (true), (by first | rfl | (simp; done) | (simp [*]; done)), H', ⟨by first | omega | exact Nat.le_refl _⟩, by repeat (first | exact Drawn0.refl _ | apply Drawn0.step)⟩
      · rw [if_neg c4] at H
        have c4b0 : decide (10 < (a0.size : Int)) = false := decide_eq_false c4
        have c4b1 : decide (10 < a0.size) = false := decide_eq_false (by omega)
        clear c4
        by_cases c5 : 0 < (a0.size : Int)
        · rw [if_pos c5] at H
          have c5b0 : decide (0 < (a0.size : Int)) = true := decide_eq_true c5
          have c5b1 : decide (0 < a0.size) = true := decide_eq_true (by omega)
          clear c5
          replace H := Option.bind_eq_some_iff.mp H
          obtain ⟨t143, A70, H⟩ := H
          replace H : (spec_l01Name.j0 k a0 (!t143)) = some r := H
          have A7 := Aside0.mk A70
          clear A70
          have H' := Aside0.mk H
          clear H
          have p6 : 0 ≤ (0 : Int) := (by omega)
          have q6 : 0 < a0.size := (by have : (0 : Int) < (a0.size : Int) := of_decide_eq_true (by first | (with_reducible assumption) | assumption); omega)
          have hx6 : ∀ h : 0 < a0.size, ((a0[0]'h).toNat : Int) = bt a0 0 := bt_at a0 0
          clear p6
          have qi6 : (0 < (a0.size : Int)) = True := eq_true (of_decide_eq_true (by first | (with_reducible assumption) | assumption))
          replace q6 := eq_true q6
          go_wp2_with (first | (go_at_call 205; (first | (with_reducible refine (spec_l01Small.calls (bt a0 0) t143 _ A7.out).mono ?_) | ((try simp only [Go.IntWalk.i64_left]); (with_reducible refine (spec_l01Small.calls (bt a0 0) t143 _ A7.out).mono ?_))); rintro e w' ⟨rfl, ⟨nd, rfl⟩⟩))
          go_meet
          case rel => exact ⟨_, (!t143), (by first | rfl | (simp; done) | (simp [*]; done)), H', ⟨by first | omega | exact Nat.le_refl _⟩, by repeat (first | exact Drawn0.refl _ | apply Drawn0.step)⟩
        · rw [if_neg c5] at H
          exact absurd H (by simp)
  case rest =>
    clear HC2
    try clear c1
    try clear p2
    try clear c3
    try clear c3b0
    try clear c3b1
    try clear c4
    try clear c4b0
    try clear c4b1
    try clear c5
    try clear c5b0
    try clear c5b1
    try clear p6
    try clear q6
    try clear hx6
    try clear qi6
    try clear p6
    try clear q6
    obtain ⟨kq, x16_1, rfl, HA, HJ1, ⟨mc1, rfl⟩⟩ := hcut
    cases kq with
    | zero => exact absurd HA.out (by simp [spec_l01Name.j0])
    | succ kj1 =>
      have H := HA.out
      clear HA
      simp only [spec_l01Name.j0] at H
      by_cases c8 : x16_1 = true
      · subst c8
        have H1 : (some false) = some r := by rw [if_pos rfl] at H; exact H
        clear H
        have H := H1
        clear H1
        obtain rfl := Option.some.inj H
        go_wp2
        go_ret
        exact ⟨by first | rfl | (simp; done) | (simp [*]; done), by repeat (first | exact Drawn0.refl _ | apply Drawn0.step)⟩
      · replace c8 := Bool.eq_false_iff.mpr c8
        subst c8
        have H1 : (spec_l01Name.l0 kj1 a0 0) = some r := by rw [if_neg (show ¬ (false = true) by decide)] at H; exact H
        clear H
        have H := H1
        clear H1
        have H' := Aside0.mk H
        clear H
        go_wp2
        go_loopg [3] kj1 (fun kq v3 w' => ∃ (x3_2 : Int), v3 = .int .i64 x3_2 ∧ Aside0 (spec_l01Name.l0 kq a0 x3_2 = some r) ∧ Aside0 (kq ≤ kj1) ∧ Drawn0 w w')
        case atStart => exact ⟨(0), (by first | rfl | (simp; done) | (simp [*]; done)), H', ⟨Nat.le_refl _⟩, by repeat (first | exact Drawn0.refl _ | apply Drawn0.step)⟩
        case round =>
          clear H'
          try clear c1
          try clear p2
          try clear c3
          try clear c3b0
          try clear c3b1
          try clear c4
          try clear c4b0
          try clear c4b1
          try clear c5
          try clear c5b0
          try clear c5b1
          try clear p6
          try clear q6
          try clear hx6
          try clear qi6
          try clear c8
          try clear p2
          try clear p6
          try clear q6
          obtain ⟨x3_2, rfl, HA, HK2, ⟨m2, rfl⟩⟩ := hrel
          cases gk with
          | zero => exact absurd HA.out (by simp [spec_l01Name.l0])
          | succ k2 =>
            have H := HA.out
            clear HA
            simp only [spec_l01Name.l0] at H
            by_cases c9 : x3_2 < (a0.size : Int)
            · rw [if_pos c9] at H
              have c9b0 : decide (x3_2 < (a0.size : Int)) = true := decide_eq_true c9
              clear c9
              by_cases c10 : 0 ≤ x3_2
              · rw [if_pos c10] at H
                have c10b0 : decide (0 ≤ x3_2) = true := decide_eq_true c10
                clear c10
                replace H := Option.bind_eq_some_iff.mp H
                obtain ⟨t144, A120, H⟩ := H
                replace H : (if t144 = true then (spec_l01Name.l0 k2 a0 (wrap64 (x3_2 + 1))) else ((spec_l01Digit.f (bt a0 x3_2)).bind fun t145 => (if t145 = true then (spec_l01Name.l0 k2 a0 (wrap64 (x3_2 + 1))) else (some false)))) = some r := H
                have A12 := Aside0.mk A120
                clear A120
                by_cases c13 : t144 = true
                · subst c13
                  have H1 : (spec_l01Name.l0 k2 a0 (wrap64 (x3_2 + 1))) = some r := by rw [if_pos rfl] at H; exact H
                  clear H
                  have H := H1
                  clear H1
                  have H' := Aside0.mk H
                  clear H
                  have p11 : 0 ≤ (x3_2 : Int) := of_decide_eq_true (by first | (with_reducible assumption) | assumption)
                  have q11 : x3_2 < (a0.size : Int) := of_decide_eq_true (by first | (with_reducible assumption) | assumption)
                  have hx11 := bt_at a0 x3_2
                  replace p11 := eq_true p11
                  replace q11 := eq_true q11
                  go_wp2_with (first | ((with_reducible refine gate_callee (f := 205) rfl ?_); refine goesL_ (some 26) rfl rfl Try.func205 (by kernel_rfl) rfl #[.int .u8 (bt a0 x3_2)] rfl (by (try simp only [List.map_toArray, List.map_cons, List.map_nil]); first | done | rfl | (simp only [List.length_drop, List.length_take]; rfl)) ?_; (with_reducible refine (spec_l01Small.calls (bt a0 x3_2) true _ A12.out).mono ?_); rintro e w' ⟨rfl, ⟨nd, rfl⟩⟩; refine ⟨_, rfl, ?_⟩))
                  go_roundg k2
                  case measure => have := HJ1.out; have := HK2.out; omega
                  case rel => exact ⟨(wrap64 (x3_2 + 1)), (by first | rfl | (simp; done) | (simp [*]; done)), H', ⟨by have := HJ1.out; have := HK2.out; omega⟩, by repeat (first | exact Drawn0.refl _ | apply Drawn0.step)⟩
                · replace c13 := Bool.eq_false_iff.mpr c13
                  subst c13
                  have H1 : ((spec_l01Digit.f (bt a0 x3_2)).bind fun t145 => (if t145 = true then (spec_l01Name.l0 k2 a0 (wrap64 (x3_2 + 1))) else (some false))) = some r := by rw [if_neg (show ¬ (false = true) by decide)] at H; exact H
                  clear H
                  have H := H1
                  clear H1
                  replace H := Option.bind_eq_some_iff.mp H
                  obtain ⟨t145, A150, H⟩ := H
                  replace H : (if t145 = true then (spec_l01Name.l0 k2 a0 (wrap64 (x3_2 + 1))) else (some false)) = some r := H
                  have A15 := Aside0.mk A150
                  clear A150
                  by_cases c16 : t145 = true
                  · subst c16
                    have H1 : (spec_l01Name.l0 k2 a0 (wrap64 (x3_2 + 1))) = some r := by rw [if_pos rfl] at H; exact H
                    clear H
                    have H := H1
                    clear H1
                    have H' := Aside0.mk H
                    clear H
                    have p11 : 0 ≤ (x3_2 : Int) := of_decide_eq_true (by first | (with_reducible assumption) | assumption)
                    have q11 : x3_2 < (a0.size : Int) := of_decide_eq_true (by first | (with_reducible assumption) | assumption)
                    have hx11 := bt_at a0 x3_2
                    replace p11 := eq_true p11
                    replace q11 := eq_true q11
                    go_wp2_with (first | ((with_reducible refine gate_callee (f := 205) rfl ?_); refine goesL_ (some 26) rfl rfl Try.func205 (by kernel_rfl) rfl #[.int .u8 (bt a0 x3_2)] rfl (by (try simp only [List.map_toArray, List.map_cons, List.map_nil]); first | done | rfl | (simp only [List.length_drop, List.length_take]; rfl)) ?_; (with_reducible refine (spec_l01Small.calls (bt a0 x3_2) false _ A12.out).mono ?_); rintro e w' ⟨rfl, ⟨nd, rfl⟩⟩; refine ⟨_, rfl, ?_⟩; have p14 : 0 ≤ (x3_2 : Int) := of_decide_eq_true (by first | (with_reducible assumption) | assumption); have q14 : x3_2 < (a0.size : Int) := of_decide_eq_true (by first | (with_reducible assumption) | assumption); have hx14 := bt_at a0 x3_2; replace p14 := eq_true p14; replace q14 := eq_true q14) | (go_at_call 206; (first | (with_reducible refine (spec_l01Digit.calls (bt a0 x3_2) true _ A15.out).mono ?_) | ((try simp only [Go.IntWalk.i64_left]); (with_reducible refine (spec_l01Digit.calls (bt a0 x3_2) true _ A15.out).mono ?_))); rintro e w' ⟨rfl, ⟨nd, rfl⟩⟩))
                    go_roundg k2
                    case measure => have := HJ1.out; have := HK2.out; omega
                    case rel => exact ⟨(wrap64 (x3_2 + 1)), (by first | rfl | (simp; done) | (simp [*]; done)), H', ⟨by have := HJ1.out; have := HK2.out; omega⟩, by repeat (first | exact Drawn0.refl _ | apply Drawn0.step)⟩
                  · replace c16 := Bool.eq_false_iff.mpr c16
                    subst c16
                    have H1 : (some false) = some r := by rw [if_neg (show ¬ (false = true) by decide)] at H; exact H
                    clear H
                    have H := H1
                    clear H1
                    obtain rfl := Option.some.inj H
                    have p11 : 0 ≤ (x3_2 : Int) := of_decide_eq_true (by first | (with_reducible assumption) | assumption)
                    have q11 : x3_2 < (a0.size : Int) := of_decide_eq_true (by first | (with_reducible assumption) | assumption)
                    have hx11 := bt_at a0 x3_2
                    replace p11 := eq_true p11
                    replace q11 := eq_true q11
                    go_wp2_with (first | ((with_reducible refine gate_callee (f := 205) rfl ?_); refine goesL_ (some 26) rfl rfl Try.func205 (by kernel_rfl) rfl #[.int .u8 (bt a0 x3_2)] rfl (by (try simp only [List.map_toArray, List.map_cons, List.map_nil]); first | done | rfl | (simp only [List.length_drop, List.length_take]; rfl)) ?_; (with_reducible refine (spec_l01Small.calls (bt a0 x3_2) false _ A12.out).mono ?_); rintro e w' ⟨rfl, ⟨nd, rfl⟩⟩; refine ⟨_, rfl, ?_⟩; have p14 : 0 ≤ (x3_2 : Int) := of_decide_eq_true (by first | (with_reducible assumption) | assumption); have q14 : x3_2 < (a0.size : Int) := of_decide_eq_true (by first | (with_reducible assumption) | assumption); have hx14 := bt_at a0 x3_2; replace p14 := eq_true p14; replace q14 := eq_true q14) | (go_at_call 206; (first | (with_reducible refine (spec_l01Digit.calls (bt a0 x3_2) false _ A15.out).mono ?_) | ((try simp only [Go.IntWalk.i64_left]); (with_reducible refine (spec_l01Digit.calls (bt a0 x3_2) false _ A15.out).mono ?_))); rintro e w' ⟨rfl, ⟨nd, rfl⟩⟩))
                    go_ret
                    exact ⟨by first | rfl | (simp; done) | (simp [*]; done), by repeat (first | exact Drawn0.refl _ | apply Drawn0.step)⟩
              · rw [if_neg c10] at H
                exact absurd H (by simp)
            · rw [if_neg c9] at H
              have c9b0 : decide (x3_2 < (a0.size : Int)) = false := decide_eq_false c9
              clear c9
              obtain rfl := Option.some.inj H
              go_wp2
              go_ret
              exact ⟨by first | rfl | (simp; done) | (simp [*]; done), by repeat (first | exact Drawn0.refl _ | apply Drawn0.step)⟩

end Go.Proofs.Ytamiipnoeffjkaa.QForecastOf
