-- Written by press.py, a program of this session, round the kit's print.py (functions and contracts; Lean checks them).
import Derived.Test.YtnhkamfccoppbaaQCleanestMixx0
import Derived.Test.YtnhkamfccoppbaaQCleanestMixx8
namespace Go.Proofs.Ytnhkamfccoppbaa.QCleanestMix
open Go.Proofs.Ytnhkamfccoppbaa.QWords
attribute [local go_sem high] binOp_string_geq_q binOp_string_leq_q binOp_string_gtr_q
open Go.RowKit Go.Proofs.YtnhkamfccoppbaaW.PrintWords Go.Proofs.YtnhkamfccoppbaaW.PrintLast Go.Proofs.YtnhkamfccoppbaaW.PrintMore
attribute [local go_sem] max2_int min2_int max_two min_two max_three min_three max_four min_four   -- for this text's walks alone
set_option linter.unusedVariables false
set_option linter.unusedSimpArgs false

/-! ### impl_mixes_least: function 38 -/
/-! ### impl_price: function 29 -/
def impl_price.f (a0_0 : ByteArray) (a0_1 : Int) (a0_2 : Int) (a0_3 : Int) : Option (Int) := some a0_1
set_option maxHeartbeats 8000000 in
set_option maxRecDepth 100000 in
theorem impl_price.calls (a0_0 : ByteArray) (a0_1 : Int) (a0_2 : Int) (a0_3 : Int) (r : Int) (w : World) (h : impl_price.f a0_0 a0_1 a0_2 a0_3 = some r) :
  Calls Try.prog 29 #[.agg #[.string a0_0, .int .i64 a0_1, .int .i64 a0_2, .int .i64 a0_3]] w fun e w' => e = .returned (.int .i64 r) ∧ Below w.heap.size w w' := by
 have hu46 := Try.underlying46
 have HB := As0.mk (Below.refl w.heap.size w)
 have H : (some a0_1) = some r := h
 clear h
 obtain rfl := Option.some.inj H
 go_enter Try.func29, Try.ntmps29
 go_wp2_with (first | ((with_reducible refine gate_dst (N := 1) rfl ?_); refine box_event ?hg (N := 1) ?hd (cs := #[.string a0_0, .int .i64 a0_1, .int .i64 a0_2, .int .i64 a0_3]) (t := 46) ?hr ?_; (case hd => rfl); (case hg => rfl); (case hr => first | (go_simp; done) | (go_simp; rfl)); intro gb198 hg w2 hbox hb; have n0_ := As0.mk (bsp (by repeat (with_reducible first | exact HB.out | apply bal | apply pbN | apply bdw)) hb); have n1_ := As0.mk (hbox); have n2_ := As0.mk ((by rw [hg]; exact (bsz (by repeat (with_reducible first | exact HB.out | apply bal | apply pbN | apply bdw))) : w.heap.size ≤ gb198)); have n3_ := As0.mk ((by rw [hg]; exact (bsz (by repeat (with_reducible first | exact HB.out | apply bal | apply pbN | apply bdw))) : w.heap.size ≤ gb198)); clear HB; have HB := n0_; have BK198 := n1_; have GW198 := n2_; have GE198 := n3_; clear n0_ n1_ n2_ n3_; clear hb hbox hg; have hcz3_0 : w2.cell? ⟨gb198, 0, none⟩ = some (.string a0_0) := (bkc BK198.out 0).trans rfl; have hcz3_1 : w2.cell? ⟨gb198, 1, none⟩ = some (.int .i64 a0_1) := (bkc BK198.out 1).trans rfl; have hcz3_2 : w2.cell? ⟨gb198, 2, none⟩ = some (.int .i64 a0_2) := (bkc BK198.out 2).trans rfl; have hcz3_3 : w2.cell? ⟨gb198, 3, none⟩ = some (.int .i64 a0_3) := (bkc BK198.out 3).trans rfl; have hfz3_0 := bkf BK198.out 0; have hfz3_1 := bkf BK198.out 1; have hfz3_2 := bkf BK198.out 2; have hfz3_3 := bkf BK198.out 3))
 go_ret
 exact ⟨by first | rfl | (simp [eWn, eWs] <;> rfl) | (simp [*, eWn, eWs] <;> rfl), by repeat (with_reducible first | exact HB.out | apply bal | apply pbN | apply bdw | refine bst ?_ GE198.out)⟩
mutual
def impl_mixes_least.l0 : Nat → Int → Int → Int → List (S46) → Int → Int → Int → Int → Int → Int → Int → Option (Int)
 | 0, _, _, _, _, _, _, _, _, _, _, _ => none
 | k + 1, x7, x38, x39, x200000, x200001, x200002, x200003, x200004, x201000, x201001, x201002 => if x39 < x38 then ((impl_mixes_after.f x200000 x200001 x200002 x200003 x200004 x201000 x201001 x201002 x39).bind fun bt202 => (if bt202.2.2.2 = true then ((impl_mixes_least.f k x200000 x200001 x200002 x200003 x200004 bt202.1 bt202.2.1 bt202.2.2.1).bind fun t207 => (if 0 ≤ x201000 then (if x201000 < (x200000.length : Int) then ((impl_price.f ((rd_T46 x200000 x201000).f0) ((rd_T46 x200000 x201000).f1) ((rd_T46 x200000 x201000).f2) ((rd_T46 x200000 x201000).f3)).bind fun t209 => (if t207 ≥ 0 then (if x7 < 0 then (impl_mixes_least.l0 k (wrap64 (t207 + (wrap64 (x39 * t209)))) x38 (wrap64 (x39 + 1)) x200000 x200001 x200002 x200003 x200004 x201000 x201001 x201002) else (if (wrap64 (t207 + (wrap64 (x39 * t209)))) < x7 then (impl_mixes_least.l0 k (wrap64 (t207 + (wrap64 (x39 * t209)))) x38 (wrap64 (x39 + 1)) x200000 x200001 x200002 x200003 x200004 x201000 x201001 x201002) else (impl_mixes_least.l0 k x7 x38 (wrap64 (x39 + 1)) x200000 x200001 x200002 x200003 x200004 x201000 x201001 x201002))) else (impl_mixes_least.l0 k x7 x38 (wrap64 (x39 + 1)) x200000 x200001 x200002 x200003 x200004 x201000 x201001 x201002))) else (none)) else (none))) else (impl_mixes_least.l0 k x7 x38 (wrap64 (x39 + 1)) x200000 x200001 x200002 x200003 x200004 x201000 x201001 x201002))) else (some x7)
def impl_mixes_least.f : Nat → List (S46) → Int → Int → Int → Int → Int → Int → Int → Option (Int)
 | 0, _, _, _, _, _, _, _, _ => none
 | k + 1, l0_0, a0_1, a0_2, a0_3, a0_4, a1_0, a1_1, a1_2 => if a1_0 = (l0_0.length : Int) then (if a1_1 > 0 then (some (-1)) else (some 0)) else (if 0 ≤ a1_0 then (if a1_0 < (l0_0.length : Int) then (impl_mixes_least.l0 k (-1) (wrap64 (((rd_T46 l0_0 a1_0).f3) + 1)) 0 l0_0 a0_1 a0_2 a0_3 a0_4 a1_0 a1_1 a1_2) else (none)) else (none))
end
theorem impl_mixes_least.mono_l : ∀ k, (∀ y0 y1 y2 y3 y4 y5 y6 y7, LeO (impl_mixes_least.f k y0 y1 y2 y3 y4 y5 y6 y7) (impl_mixes_least.f (k + 1) y0 y1 y2 y3 y4 y5 y6 y7)) ∧ (∀ y0 y1 y2 y3 y4 y5 y6 y7 y8 y9 y10, LeO (impl_mixes_least.l0 k y0 y1 y2 y3 y4 y5 y6 y7 y8 y9 y10) (impl_mixes_least.l0 (k + 1) y0 y1 y2 y3 y4 y5 y6 y7 y8 y9 y10))
 | 0 => ⟨fun _ _ _ _ _ _ _ _ r h => by simp [impl_mixes_least.f] at h, fun _ _ _ _ _ _ _ _ _ _ _ r h => by simp [impl_mixes_least.l0] at h⟩
 | k + 1 => by
  obtain ⟨ih0, ih1⟩ := impl_mixes_least.mono_l k
  refine ⟨?_, ?_⟩
  ·intro y0 y1 y2 y3 y4 y5 y6 y7
   unfold impl_mixes_least.f
   repeat' first
   | (with_reducible exact ih0 _ _ _ _ _ _ _ _)
   | (with_reducible exact ih1 _ _ _ _ _ _ _ _ _ _ _)
   | (with_reducible exact LeO.refl _)
   | (with_reducible exact LeO.none _)
   | (with_reducible refine LeO.ite ?_ ?_)
   | (with_reducible refine LeO.bind ?_ (fun _ => ?_))
   | exact ih0 _ _ _ _ _ _ _ _
   | exact ih1 _ _ _ _ _ _ _ _ _ _ _
   | exact LeO.none _
   | refine LeO.ite ?_ ?_
   | refine LeO.bind ?_ (fun _ => ?_)
  ·intro y0 y1 y2 y3 y4 y5 y6 y7 y8 y9 y10
   unfold impl_mixes_least.l0
   repeat' first
   | (with_reducible exact ih0 _ _ _ _ _ _ _ _)
   | (with_reducible exact ih1 _ _ _ _ _ _ _ _ _ _ _)
   | (with_reducible exact LeO.refl _)
   | (with_reducible exact LeO.none _)
   | (with_reducible refine LeO.ite ?_ ?_)
   | (with_reducible refine LeO.bind ?_ (fun _ => ?_))
   | exact ih0 _ _ _ _ _ _ _ _
   | exact ih1 _ _ _ _ _ _ _ _ _ _ _
   | exact LeO.none _
   | refine LeO.ite ?_ ?_
   | refine LeO.bind ?_ (fun _ => ?_)
theorem impl_mixes_least.mono : ∀ a0 a1 a2 a3 a4 a5 a6 a7 k, LeO (impl_mixes_least.f k a0 a1 a2 a3 a4 a5 a6 a7) (impl_mixes_least.f (k + 1) a0 a1 a2 a3 a4 a5 a6 a7) := by
 intro a0 a1 a2 a3 a4 a5 a6 a7 k
 obtain ⟨ih0, ih1⟩ := impl_mixes_least.mono_l k
 exact ih0 a0 a1 a2 a3 a4 a5 a6 a7
/-! ### what holds of states, and of the least price -/
def VF (l : List S46) : Prop := l.length ≤ 6 ∧ ∀ i : Int, ((0 ≤ (rd_T46 l i).f1 ∧ (rd_T46 l i).f1 ≤ 20) ∧ 0 ≤ (rd_T46 l i).f3) ∧ (rd_T46 l i).f3 ≤ 20
theorem mix_wr {n : Int} (h0 : -9223372036854775808 ≤ n) (h1 : n ≤ 9223372036854775807) : wrap64 n = n := by
 unfold wrap64
 omega
theorem after_box {l : List S46} {p1 p2 p3 p4 a b c x t1 t2 t3 : Int} (hv : VF l) (hbx : inBox a b c) (hx : 0 ≤ x ∧ x ≤ 9223372036854775807) (h : impl_mixes_after.f l p1 p2 p3 p4 a b c x = some (t1, t2, t3, true)) : inBox t1 t2 t3 := by
 obtain ⟨⟨h1, h2⟩, ⟨h3, h4⟩, h5, h6⟩ := hbx
 obtain ⟨⟨⟨g1, g2⟩, g3⟩, g4⟩ := hv.2 a
 have hl := hv.1
 simp only [impl_mixes_after.f] at h
 by_cases c1 : 0 ≤ a
 ·rw [if_pos c1] at h
  by_cases c2 : a < (l.length : Int)
  ·rw [if_pos c2] at h
   have e1 : wrap64 (a + 1) = a + 1 := mix_wr (by omega) (by omega)
   have e2 : wrap64 (b - x) = b - x := mix_wr (by omega) (by omega)
   rw [e1, e2] at h
   by_cases c3 : b - x ≥ 0
   ·rw [if_pos c3] at h
    have m0 : 0 ≤ x * (rd_T46 l a).f1 := Int.mul_nonneg hx.1 g1
    have m1 : x * (rd_T46 l a).f1 ≤ 120 * 20 := Int.mul_le_mul (by omega) g2 g1 (by omega)
    have e3 : wrap64 (x * (rd_T46 l a).f1) = x * (rd_T46 l a).f1 := mix_wr (by omega) (by omega)
    rw [e3] at h
    have e4 : wrap64 (c - x * (rd_T46 l a).f1) = c - x * (rd_T46 l a).f1 := mix_wr (by omega) (by omega)
    rw [e4] at h
    simp only [Option.some.injEq, Prod.mk.injEq, decide_eq_true_eq] at h
    obtain ⟨rfl, rfl, rfl, hc⟩ := h
    exact ⟨⟨by omega, by omega⟩, ⟨by omega, by omega⟩, by omega, by omega⟩
   ·rw [if_neg c3] at h
    simp at h
  ·rw [if_neg c2] at h
   cases h
 ·rw [if_neg c1] at h
  cases h
theorem mix_round {l : List S46} {a x : Int} (hv : VF l) (hx : 0 ≤ x ∧ x ≤ 21) (h : x < wrap64 ((rd_T46 l a).f3 + 1)) : (0 ≤ x ∧ x ≤ 9223372036854775807) ∧ 0 ≤ wrap64 (x + 1) ∧ wrap64 (x + 1) ≤ 21 := by
 obtain ⟨⟨_, g3⟩, g4⟩ := hv.2 a
 rw [mix_wr (by omega) (by omega)] at h
 rw [mix_wr (by omega) (by omega)]
 omega
def mixF (l : List S46) (lim a b c v : Int) : Prop := ∃ k, impl_mixes_least.f k l 0 lim 0 0 a b c = some v
theorem mixF_uniq {l : List S46} {lim a b c v v' : Int} (h : mixF l lim a b c v) (h' : mixF l lim a b c v') : v = v' := by
 have up : ∀ (k j : Nat) (r : Int), impl_mixes_least.f k l 0 lim 0 0 a b c = some r → impl_mixes_least.f (k + j) l 0 lim 0 0 a b c = some r := by
  intro k j r hk
  induction j with
  | zero => exact hk
  | succ j ih => exact impl_mixes_least.mono l 0 lim 0 0 a b c (k + j) r ih
 obtain ⟨k, hk⟩ := h
 obtain ⟨k', hk'⟩ := h'
 have a1 := up k k' v hk
 have a2 := up k' k v' hk'
 rw [Nat.add_comm] at a2
 rw [a1] at a2
 exact Option.some.inj a2
/-- A call through a variable, of which it is known which function it holds. -/
theorem goesV_ {P : Program} {Q : Exit → Act → World → Prop} {ops : Array Oper} {oi : Oper} {N : Option Tmp} {a : Act} {w : World} {K : Act → World → Prop} {f : FuncId} {fn : Func} {x : Operand} {av : Array Operand} {ts : Array TypeId} (hf : P.funcs[f]? = some fn) (hname : (fn.name == "runtime.NumGoroutine") = false) (hb : fn.body.isSome = true) (args : Array Value)
  (hw : Region.wanted oi (yielded ops a.tmps) = true) (hN : oi.dst = N) (hop : oi.op = .call { callee := .value x, args := av, argTypes := ts }) (hxv : a.eval x = .func (.func f) #[] #[]) (hargs : av.map a.eval = args)
  (h : Calls P f args w fun e w' => ∃ v, e = .returned v ∧ K (a.put N v) w') : if Region.wanted oi (yielded ops a.tmps) = true then Oper.wp P oi a w K Q else K (a.put N undef) w := by
 refine call_ f args hw hN ?_ h
 have he := enters_ hf hname hb args w
 unfold execOp
 simp [hop, resolve, Deferred.ofValue, invoke, hxv, hargs, he]
def vfB (l : List S46) (d e : Int) : Bool := (decide (l.length ≤ 6) && l.all (fun x => decide (((0 ≤ x.f1 ∧ x.f1 ≤ 20) ∧ 0 ≤ x.f3) ∧ x.f3 ≤ 20))) && decide ((0 ≤ d ∧ d ≤ 120) ∧ 0 ≤ e ∧ e ≤ 2401)
theorem vfB_VF {l : List S46} {d e : Int} (h : vfB l d e = true) : VF l ∧ inBox 0 d e := by
 simp only [vfB, Bool.and_eq_true, decide_eq_true_eq, List.all_eq_true] at h
 obtain ⟨⟨h1, h2⟩, h3, h4, h5⟩ := h
 refine ⟨⟨h1, fun i => ?_⟩, ⟨by omega, by omega⟩, h3, h4, h5⟩
 show ((0 ≤ (l.getD i.toNat z46).f1 ∧ (l.getD i.toNat z46).f1 ≤ 20) ∧ 0 ≤ (l.getD i.toNat z46).f3) ∧ (l.getD i.toNat z46).f3 ≤ 20
 by_cases c : i.toNat < l.length
 ·rw [List.getD_eq_getElem?_getD, List.getElem?_eq_getElem c]
  exact h2 _ (List.getElem_mem c)
 ·rw [List.getD_eq_getElem?_getD, List.getElem?_eq_none (by omega)]
  exact ⟨⟨⟨Int.le_refl _, by decide⟩, Int.le_refl _⟩, by decide⟩
theorem mix_next {x : Int} (h : 0 ≤ x ∧ x ≤ 1001) (hG : x ≤ 1000) : (0 ≤ x ∧ x ≤ 9223372036854775807) ∧ 0 ≤ wrap64 (x + 1) ∧ wrap64 (x + 1) ≤ 1001 := by
 rw [mix_wr (by omega) (by omega)]
 omega
section
variable {F : Int → Int → Int → Int → Prop} {B : Nat} {D D' : DataW Unit} {w W W1 : World}
theorem memo_rebase {w0 : World} (h : MemoD F B D w W) (hb : Below w0.heap.size w0 W) : MemoD F B D w0 W := ⟨h.1, h.2.1, h.2.2.1, hb.size, fun g hg _ => hb.block g hg⟩
theorem memo_R {α : Type} {d : Kd α} {e b : Nat} {ok : Nat → Prop} {v : Value} {xs : List α} (hM : MemoD F B D' W W1) (hW : MemoD F B D w W) (h : Kd.R d e W b ok v xs) : Kd.R d e W1 b ok v xs := by
 obtain ⟨es, clock, hq, _⟩ := hW.1
 refine Kd.R_mono (Kd.R_move (Kd.R_bound h) (fun k hk => hM.2.2.2.2 k hk.2.2.1 ?_)) (fun _ hk => hk.1)
 intro e_
 subst e_
 obtain ⟨_, _, _, q, _, cells, hc⟩ := hk
 rw [hq] at hc
 cases hc
theorem memo_row {α : Type} {d : Kd α} {e b : Nat} {ok : Nat → Prop} {v : Value} {xs : List α} (hW : MemoD F B D w W) (h : Kd.R d e W b ok v xs) : ∀ k, v.ownBlock = some k → k ≠ B := by
 obtain ⟨es, clock, hq, _⟩ := hW.1
 intro k hk e_
 subst e_
 obtain ⟨cells, hc⟩ := Kd.R_typed h k hk
 rw [hq] at hc
 cases hc
theorem memo_grown {row : Option Nat} (h : MemoD F B D w W) (hg : W.grownBy W1 row) (hr : ∀ k, row = some k → k ≠ B ∧ w.heap.size ≤ k) : MemoD F B D w W1 := by
 obtain ⟨h1, h2, h3, h4, h5⟩ := h
 have hlt := h1.lt
 refine ⟨h1.kept hg (fun e => (hr B e.symm).1 rfl), h2, h3, Nat.le_trans h4 hg.size, fun g hg' hne => (hg.block g (Nat.lt_of_lt_of_le hg' h4) (fun e => ?_)).trans (h5 g hg' hne)⟩
 have := (hr g e.symm).2
 omega
end
/-- A map is made. -/
theorem map_event {P : Program} {Q : Exit → Act → World → Prop} {ops : Array Oper} {rest : List Oper} {o : Oper} {a : Act} {W : World} (hgd : o.guard = none) {N : Tmp} (_hd : o.dst = some N)
  (hrun : (execOp a.eval o).run P W = .ok (.value (.map (some W.heap.size))) (W.alloc (.map #[] 0)))
  (h : ∀ B, B = W.heap.size → ∀ w1, (∀ F, MemoD F B (.map []) W w1) → Below W.heap.size W w1 → wpList P ops Q rest (a.put o.dst (.map (some B))) w1) : wpList P ops Q (o :: rest) a W :=
 Kd.event_run hgd hrun (h _ rfl _ (fun F => memo_made F W) (bal (Below.refl _ _) _))
def impl_mixes_least.T15 : Bool × List (List Nat × List Nat) := (true, [([], []), ([], []), ([], []), ([2], [2]), ([], []), ([4], [4]), ([], []), ([6], [6]), ([5, 7], [5, 7]), ([8], [8]), ([3, 9], [3, 9]), ([1, 10], [1, 10]), ([0, 11], [0, 11]), ([12, 10, 0, 1, 2, 3, 4, 5, 6, 7, 8, 9, 10, 11, 12], [12])])
def impl_mixes_least.B15 : List Nat := [0, 0, 0, 4, 0, 16, 0, 64, 240, 496, 1020, 2046, 4095, 8191]
theorem impl_mixes_least.tab15 : rtab .any (opsOf Try.f38 15) = impl_mixes_least.T15 := by kernel_rfl
theorem impl_mixes_least.bits15 : waitsOk impl_mixes_least.T15.2 impl_mixes_least.B15 = true := by kernel_rfl
set_option maxHeartbeats 8000000 in
set_option maxRecDepth 100000 in
theorem impl_mixes_least.calls (k : Nat) : ∀ (A0_0 : Option Addr) (c0_0 : Nat) (l0_0 : List (S46)) (a0_2 : Int) (B : Nat) (a1_0 : Int) (a1_1 : Int) (a1_2 : Int) (r : Int) (w : World) (w0 : World) (D : DataW Unit) (hv : VF l0_0) (hbx : inBox a1_0 a1_1 a1_2) (hB0 : w0.heap.size ≤ B) (hw0 : Below w0.heap.size w0 w) (hM : MemoD (mixF l0_0 a0_2) B D w w) (hr0_0 : Kd.C k46 w0 A0_0 l0_0.length l0_0) (hc0_0 : l0_0.length ≤ c0_0) (h : impl_mixes_least.f k l0_0 0 a0_2 0 0 a1_0 a1_1 a1_2 = some r),
  Calls Try.prog 38 #[.agg #[.slice A0_0 l0_0.length c0_0, .func (.func 29) #[] #[], .int .i64 a0_2, .map none, .map (some B)], .agg #[.int .i64 a1_0, .int .i64 a1_1, .int .i64 a1_2]] w fun e w' => e = .returned (.int .i64 r) ∧ Below w0.heap.size w0 w' ∧ ∃ D' : DataW Unit, MemoD (mixF l0_0 a0_2) B D' w w' := by
 induction k using Nat.strongRecOn with
 | _ k ih =>
 intro A0_0 c0_0 l0_0 a0_2 B a1_0 a1_1 a1_2 r w w0 D hv hbx hB0 hw0 hM hr0_0 hc0_0 h
 have HV := As0.mk hv
 have HBX := As0.mk hbx
 have HB0 := As0.mk hB0
 have HM := As0.mk hM
 have HF := As0.mk (show mixF l0_0 a0_2 a1_0 a1_1 a1_2 r from ⟨k, h⟩)
 clear hv hbx hB0 hM
 cases k with
 | zero => exact absurd h (by simp [impl_mixes_least.f])
 | succ k =>
 simp only [impl_mixes_least.f] at h
 have hu55 := Try.underlying55
 have hu63 := Try.underlying63
 have hu46 := Try.underlying46
 have HR0_0 := As0.mk hr0_0
 have HC0_0 := As0.mk hc0_0
 clear hr0_0 hc0_0
 have HB := As0.mk hw0
 clear hw0
 have H : (if a1_0 = (l0_0.length : Int) then (if a1_1 > 0 then (some (-1)) else (some 0)) else (if 0 ≤ a1_0 then (if a1_0 < (l0_0.length : Int) then (impl_mixes_least.l0 k (-1) (wrap64 (((rd_T46 l0_0 a1_0).f3) + 1)) 0 l0_0 0 a0_2 0 0 a1_0 a1_1 a1_2) else (none)) else (none))) = some r := h
 clear h
 by_cases c3 : a1_0 = (l0_0.length : Int)
 ·rw [if_pos c3] at H
  have c3b0 : (a1_0 == (l0_0.length : Int)) = true := beq_iff_eq.mpr c3
  have c3b1 : (a1_0 != (l0_0.length : Int)) = false := bne_eq_false_iff_eq.mpr c3
  clear c3
  by_cases c4 : a1_1 > 0
  ·rw [if_pos c4] at H
   have c4b0 : decide (0 < a1_1) = true := decide_eq_true c4
   clear c4
   obtain rfl := Option.some.inj H
   go_enter Try.func38, Try.ntmps38
   go_wp2_with (first | ((with_reducible refine gate_dst (N := 2) rfl ?_); refine box_event ?hg (N := 2) ?hd (cs := #[.slice A0_0 l0_0.length c0_0, .func (.func 29) #[] #[], .int .i64 a0_2, .map none, .map (some B)]) (t := 55) ?hr ?_; (case hd => rfl); (case hg => rfl); (case hr => first | (go_simp; done) | (go_simp; rfl)); intro gb199 hg w5 hbox hb; have NM199 := As0.mk (memo_new (by repeat (with_reducible first | exact HM.out | apply mal | apply mdN | apply mdw | apply mst (hne := NM199.out) | apply mst (hne := NM200.out) | apply mst (hne := NM206.out))) hg); have HM_ := As0.mk (memo_below (by repeat (with_reducible first | exact HM.out | apply mal | apply mdN | apply mdw | apply mst (hne := NM199.out) | apply mst (hne := NM200.out) | apply mst (hne := NM206.out))) hb); clear HM; have HM := HM_; clear HM_; have n0_ := As0.mk (bsp (by repeat (with_reducible first | exact HB.out | apply bal | apply pbN | apply bdw)) hb); have n1_ := As0.mk (hbox); have n2_ := As0.mk ((by rw [hg]; exact (bsz (by repeat (with_reducible first | exact HB.out | apply bal | apply pbN | apply bdw))) : w0.heap.size ≤ gb199)); have n3_ := As0.mk ((by rw [hg]; exact (bsz (by repeat (with_reducible first | exact HB.out | apply bal | apply pbN | apply bdw))) : w0.heap.size ≤ gb199)); clear HB; have HB := n0_; have BK199 := n1_; have GW199 := n2_; have GE199 := n3_; clear n0_ n1_ n2_ n3_; clear hb hbox hg) | ((with_reducible refine gate_dst (N := 3) rfl ?_); refine box_event ?hg (N := 3) ?hd (cs := #[.int .i64 a1_0, .int .i64 a1_1, .int .i64 a1_2]) (t := 63) ?hr ?_; (case hd => rfl); (case hg => rfl); (case hr => first | (go_simp; done) | (go_simp; rfl)); intro gb200 hg w6 hbox hb; have NM200 := As0.mk (memo_new (by repeat (with_reducible first | exact HM.out | apply mal | apply mdN | apply mdw | apply mst (hne := NM199.out) | apply mst (hne := NM200.out) | apply mst (hne := NM206.out))) hg); have HM_ := As0.mk (memo_below (by repeat (with_reducible first | exact HM.out | apply mal | apply mdN | apply mdw | apply mst (hne := NM199.out) | apply mst (hne := NM200.out) | apply mst (hne := NM206.out))) hb); clear HM; have HM := HM_; clear HM_; have n0_ := As0.mk (bkb (g := gb199) (o := .cells #[.slice A0_0 l0_0.length c0_0, .func (.func 29) #[] #[], .int .i64 a0_2, .map none, .map (some B)] 55 (0, 0)) (by (with_reducible repeat first | refine bkN ?_ _ | refine bkd ?_ | refine bka ?_ _); exact BK199.out) hb); have n1_ := As0.mk (bsp (by repeat (with_reducible first | exact HB.out | apply bal | apply pbN | apply bdw | refine bst ?_ GE199.out)) hb); have n2_ := As0.mk (hbox); have n3_ := As0.mk ((by rw [hg]; exact (bsz (by repeat (with_reducible first | exact HB.out | apply bal | apply pbN | apply bdw | refine bst ?_ GE199.out))) : w0.heap.size ≤ gb200)); have n4_ := As0.mk ((by rw [hg]; exact (bsz (by repeat (with_reducible first | exact HB.out | apply bal | apply pbN | apply bdw | refine bst ?_ GE199.out))) : w0.heap.size ≤ gb200)); have n5_ := As0.mk ((by rw [hg]; exact Nat.ne_of_lt (blk_lt (g := gb199) (o := .cells #[.slice A0_0 l0_0.length c0_0, .func (.func 29) #[] #[], .int .i64 a0_2, .map none, .map (some B)] 55 (0, 0)) (by (with_reducible repeat first | refine bkN ?_ _ | refine bkd ?_ | refine bka ?_ _); exact BK199.out)) : gb199 ≠ gb200)); have n6_ := As0.mk ((by rw [hg]; exact Nat.ne_of_gt (blk_lt (g := gb199) (o := .cells #[.slice A0_0 l0_0.length c0_0, .func (.func 29) #[] #[], .int .i64 a0_2, .map none, .map (some B)] 55 (0, 0)) (by (with_reducible repeat first | refine bkN ?_ _ | refine bkd ?_ | refine bka ?_ _); exact BK199.out)) : gb200 ≠ gb199)); clear BK199; clear HB; have BK199 := n0_; have HB := n1_; have BK200 := n2_; have GW200 := n3_; have GE200 := n4_; have NB199_200 := n5_; have NB200_199 := n6_; clear n0_ n1_ n2_ n3_ n4_ n5_ n6_; clear hb hbox hg; have hnb7 := NB200_199.out; have hnc7 := NB199_200.out; have hcz8_0 : w6.cell? ⟨gb200, 0, none⟩ = some (.int .i64 a1_0) := (bkc BK200.out 0).trans rfl; have hcz8_1 : w6.cell? ⟨gb200, 1, none⟩ = some (.int .i64 a1_1) := (bkc BK200.out 1).trans rfl; have hcz8_2 : w6.cell? ⟨gb200, 2, none⟩ = some (.int .i64 a1_2) := (bkc BK200.out 2).trans rfl; have hfz8_0 := bkf BK200.out 0; have hfz8_1 := bkf BK200.out 1; have hfz8_2 := bkf BK200.out 2; have hcz9_0 : w6.cell? ⟨gb199, 0, none⟩ = some (.slice A0_0 l0_0.length c0_0) := (bkc BK199.out 0).trans rfl; have hcz9_1 : w6.cell? ⟨gb199, 1, none⟩ = some (.func (.func 29) #[] #[]) := (bkc BK199.out 1).trans rfl; have hcz9_2 : w6.cell? ⟨gb199, 2, none⟩ = some (.int .i64 a0_2) := (bkc BK199.out 2).trans rfl; have hcz9_3 : w6.cell? ⟨gb199, 3, none⟩ = some (.map none) := (bkc BK199.out 3).trans rfl; have hcz9_4 : w6.cell? ⟨gb199, 4, none⟩ = some (.map (some B)) := (bkc BK199.out 4).trans rfl; have hfz9_0 := bkf BK199.out 0; have hfz9_1 := bkf BK199.out 1; have hfz9_2 := bkf BK199.out 2; have hfz9_3 := bkf BK199.out 3; have hfz9_4 := bkf BK199.out 4))
   go_ret
   exact ⟨by first | rfl | (simp [eWn, eWs] <;> rfl) | (simp [*, eWn, eWs] <;> rfl), (by repeat (with_reducible first | exact HB.out | apply bal | apply pbN | apply bdw | refine bst ?_ GE199.out | refine bst ?_ GE200.out)), _, (by repeat (with_reducible first | exact HM.out | apply mal | apply mdN | apply mdw | apply mst (hne := NM199.out) | apply mst (hne := NM200.out) | apply mst (hne := NM206.out)))⟩
  ·rw [if_neg c4] at H
   have c4b0 : decide (0 < a1_1) = false := decide_eq_false c4
   clear c4
   obtain rfl := Option.some.inj H
   go_enter Try.func38, Try.ntmps38
   go_wp2_with (first | ((with_reducible refine gate_dst (N := 2) rfl ?_); refine box_event ?hg (N := 2) ?hd (cs := #[.slice A0_0 l0_0.length c0_0, .func (.func 29) #[] #[], .int .i64 a0_2, .map none, .map (some B)]) (t := 55) ?hr ?_; (case hd => rfl); (case hg => rfl); (case hr => first | (go_simp; done) | (go_simp; rfl)); intro gb199 hg w10 hbox hb; have NM199 := As0.mk (memo_new (by repeat (with_reducible first | exact HM.out | apply mal | apply mdN | apply mdw | apply mst (hne := NM199.out) | apply mst (hne := NM200.out) | apply mst (hne := NM206.out))) hg); have HM_ := As0.mk (memo_below (by repeat (with_reducible first | exact HM.out | apply mal | apply mdN | apply mdw | apply mst (hne := NM199.out) | apply mst (hne := NM200.out) | apply mst (hne := NM206.out))) hb); clear HM; have HM := HM_; clear HM_; have n0_ := As0.mk (bsp (by repeat (with_reducible first | exact HB.out | apply bal | apply pbN | apply bdw)) hb); have n1_ := As0.mk (hbox); have n2_ := As0.mk ((by rw [hg]; exact (bsz (by repeat (with_reducible first | exact HB.out | apply bal | apply pbN | apply bdw))) : w0.heap.size ≤ gb199)); have n3_ := As0.mk ((by rw [hg]; exact (bsz (by repeat (with_reducible first | exact HB.out | apply bal | apply pbN | apply bdw))) : w0.heap.size ≤ gb199)); clear HB; have HB := n0_; have BK199 := n1_; have GW199 := n2_; have GE199 := n3_; clear n0_ n1_ n2_ n3_; clear hb hbox hg) | ((with_reducible refine gate_dst (N := 3) rfl ?_); refine box_event ?hg (N := 3) ?hd (cs := #[.int .i64 a1_0, .int .i64 a1_1, .int .i64 a1_2]) (t := 63) ?hr ?_; (case hd => rfl); (case hg => rfl); (case hr => first | (go_simp; done) | (go_simp; rfl)); intro gb200 hg w11 hbox hb; have NM200 := As0.mk (memo_new (by repeat (with_reducible first | exact HM.out | apply mal | apply mdN | apply mdw | apply mst (hne := NM199.out) | apply mst (hne := NM200.out) | apply mst (hne := NM206.out))) hg); have HM_ := As0.mk (memo_below (by repeat (with_reducible first | exact HM.out | apply mal | apply mdN | apply mdw | apply mst (hne := NM199.out) | apply mst (hne := NM200.out) | apply mst (hne := NM206.out))) hb); clear HM; have HM := HM_; clear HM_; have n0_ := As0.mk (bkb (g := gb199) (o := .cells #[.slice A0_0 l0_0.length c0_0, .func (.func 29) #[] #[], .int .i64 a0_2, .map none, .map (some B)] 55 (0, 0)) (by (with_reducible repeat first | refine bkN ?_ _ | refine bkd ?_ | refine bka ?_ _); exact BK199.out) hb); have n1_ := As0.mk (bsp (by repeat (with_reducible first | exact HB.out | apply bal | apply pbN | apply bdw | refine bst ?_ GE199.out)) hb); have n2_ := As0.mk (hbox); have n3_ := As0.mk ((by rw [hg]; exact (bsz (by repeat (with_reducible first | exact HB.out | apply bal | apply pbN | apply bdw | refine bst ?_ GE199.out))) : w0.heap.size ≤ gb200)); have n4_ := As0.mk ((by rw [hg]; exact (bsz (by repeat (with_reducible first | exact HB.out | apply bal | apply pbN | apply bdw | refine bst ?_ GE199.out))) : w0.heap.size ≤ gb200)); have n5_ := As0.mk ((by rw [hg]; exact Nat.ne_of_lt (blk_lt (g := gb199) (o := .cells #[.slice A0_0 l0_0.length c0_0, .func (.func 29) #[] #[], .int .i64 a0_2, .map none, .map (some B)] 55 (0, 0)) (by (with_reducible repeat first | refine bkN ?_ _ | refine bkd ?_ | refine bka ?_ _); exact BK199.out)) : gb199 ≠ gb200)); have n6_ := As0.mk ((by rw [hg]; exact Nat.ne_of_gt (blk_lt (g := gb199) (o := .cells #[.slice A0_0 l0_0.length c0_0, .func (.func 29) #[] #[], .int .i64 a0_2, .map none, .map (some B)] 55 (0, 0)) (by (with_reducible repeat first | refine bkN ?_ _ | refine bkd ?_ | refine bka ?_ _); exact BK199.out)) : gb200 ≠ gb199)); clear BK199; clear HB; have BK199 := n0_; have HB := n1_; have BK200 := n2_; have GW200 := n3_; have GE200 := n4_; have NB199_200 := n5_; have NB200_199 := n6_; clear n0_ n1_ n2_ n3_ n4_ n5_ n6_; clear hb hbox hg; have hnb12 := NB200_199.out; have hnc12 := NB199_200.out; have hcz13_0 : w11.cell? ⟨gb200, 0, none⟩ = some (.int .i64 a1_0) := (bkc BK200.out 0).trans rfl; have hcz13_1 : w11.cell? ⟨gb200, 1, none⟩ = some (.int .i64 a1_1) := (bkc BK200.out 1).trans rfl; have hcz13_2 : w11.cell? ⟨gb200, 2, none⟩ = some (.int .i64 a1_2) := (bkc BK200.out 2).trans rfl; have hfz13_0 := bkf BK200.out 0; have hfz13_1 := bkf BK200.out 1; have hfz13_2 := bkf BK200.out 2; have hcz14_0 : w11.cell? ⟨gb199, 0, none⟩ = some (.slice A0_0 l0_0.length c0_0) := (bkc BK199.out 0).trans rfl; have hcz14_1 : w11.cell? ⟨gb199, 1, none⟩ = some (.func (.func 29) #[] #[]) := (bkc BK199.out 1).trans rfl; have hcz14_2 : w11.cell? ⟨gb199, 2, none⟩ = some (.int .i64 a0_2) := (bkc BK199.out 2).trans rfl; have hcz14_3 : w11.cell? ⟨gb199, 3, none⟩ = some (.map none) := (bkc BK199.out 3).trans rfl; have hcz14_4 : w11.cell? ⟨gb199, 4, none⟩ = some (.map (some B)) := (bkc BK199.out 4).trans rfl; have hfz14_0 := bkf BK199.out 0; have hfz14_1 := bkf BK199.out 1; have hfz14_2 := bkf BK199.out 2; have hfz14_3 := bkf BK199.out 3; have hfz14_4 := bkf BK199.out 4))
   go_ret
   exact ⟨by first | rfl | (simp [eWn, eWs] <;> rfl) | (simp [*, eWn, eWs] <;> rfl), (by repeat (with_reducible first | exact HB.out | apply bal | apply pbN | apply bdw | refine bst ?_ GE199.out | refine bst ?_ GE200.out)), _, (by repeat (with_reducible first | exact HM.out | apply mal | apply mdN | apply mdw | apply mst (hne := NM199.out) | apply mst (hne := NM200.out) | apply mst (hne := NM206.out)))⟩
 ·as_aux_lemma =>
  rw [if_neg c3] at H
  have c3b0 : (a1_0 == (l0_0.length : Int)) = false := beq_eq_false_iff_ne.mpr c3
  have c3b1 : (a1_0 != (l0_0.length : Int)) = true := bne_iff_ne.mpr c3
  by_cases c15 : 0 ≤ a1_0
  ·as_aux_lemma =>
   rw [if_pos c15] at H
   have c15b0 : decide (0 ≤ a1_0) = true := decide_eq_true c15
   clear c15
   by_cases c16 : a1_0 < (l0_0.length : Int)
   ·as_aux_lemma =>
    rw [if_pos c16] at H
    have c16b0 : decide (a1_0 < (l0_0.length : Int)) = true := decide_eq_true c16
    clear c16
    have H' := As0.mk H
    clear H
    by_cases HH : Go.Maps.has D (ikey a1_0 a1_1 a1_2) = true
    ·go_enter Try.func38, Try.ntmps38
     go_wp2_with (first | ((with_reducible refine gate_dst (N := 2) rfl ?_); refine box_event ?hg (N := 2) ?hd (cs := #[.slice A0_0 l0_0.length c0_0, .func (.func 29) #[] #[], .int .i64 a0_2, .map none, .map (some B)]) (t := 55) ?hr ?_; (case hd => rfl); (case hg => rfl); (case hr => first | (go_simp; done) | (go_simp; rfl)); intro gb199 hg w5 hbox hb; have NM199 := As0.mk (memo_new (by repeat (with_reducible first | exact HM.out | apply mal | apply mdN | apply mdw | apply mst (hne := NM199.out) | apply mst (hne := NM200.out) | apply mst (hne := NM206.out))) hg); have HM_ := As0.mk (memo_below (by repeat (with_reducible first | exact HM.out | apply mal | apply mdN | apply mdw | apply mst (hne := NM199.out) | apply mst (hne := NM200.out) | apply mst (hne := NM206.out))) hb); clear HM; have HM := HM_; clear HM_; have n0_ := As0.mk (bsp (by repeat (with_reducible first | exact HB.out | apply bal | apply pbN | apply bdw)) hb); have n1_ := As0.mk (hbox); have n2_ := As0.mk ((by rw [hg]; exact (bsz (by repeat (with_reducible first | exact HB.out | apply bal | apply pbN | apply bdw))) : w0.heap.size ≤ gb199)); have n3_ := As0.mk ((by rw [hg]; exact (bsz (by repeat (with_reducible first | exact HB.out | apply bal | apply pbN | apply bdw))) : w0.heap.size ≤ gb199)); clear HB; have HB := n0_; have BK199 := n1_; have GW199 := n2_; have GE199 := n3_; clear n0_ n1_ n2_ n3_; clear hb hbox hg) | ((with_reducible refine gate_dst (N := 3) rfl ?_); refine box_event ?hg (N := 3) ?hd (cs := #[.int .i64 a1_0, .int .i64 a1_1, .int .i64 a1_2]) (t := 63) ?hr ?_; (case hd => rfl); (case hg => rfl); (case hr => first | (go_simp; done) | (go_simp; rfl)); intro gb200 hg w6 hbox hb; have NM200 := As0.mk (memo_new (by repeat (with_reducible first | exact HM.out | apply mal | apply mdN | apply mdw | apply mst (hne := NM199.out) | apply mst (hne := NM200.out) | apply mst (hne := NM206.out))) hg); have HM_ := As0.mk (memo_below (by repeat (with_reducible first | exact HM.out | apply mal | apply mdN | apply mdw | apply mst (hne := NM199.out) | apply mst (hne := NM200.out) | apply mst (hne := NM206.out))) hb); clear HM; have HM := HM_; clear HM_; have n0_ := As0.mk (bkb (g := gb199) (o := .cells #[.slice A0_0 l0_0.length c0_0, .func (.func 29) #[] #[], .int .i64 a0_2, .map none, .map (some B)] 55 (0, 0)) (by (with_reducible repeat first | refine bkN ?_ _ | refine bkd ?_ | refine bka ?_ _); exact BK199.out) hb); have n1_ := As0.mk (bsp (by repeat (with_reducible first | exact HB.out | apply bal | apply pbN | apply bdw | refine bst ?_ GE199.out)) hb); have n2_ := As0.mk (hbox); have n3_ := As0.mk ((by rw [hg]; exact (bsz (by repeat (with_reducible first | exact HB.out | apply bal | apply pbN | apply bdw | refine bst ?_ GE199.out))) : w0.heap.size ≤ gb200)); have n4_ := As0.mk ((by rw [hg]; exact (bsz (by repeat (with_reducible first | exact HB.out | apply bal | apply pbN | apply bdw | refine bst ?_ GE199.out))) : w0.heap.size ≤ gb200)); have n5_ := As0.mk ((by rw [hg]; exact Nat.ne_of_lt (blk_lt (g := gb199) (o := .cells #[.slice A0_0 l0_0.length c0_0, .func (.func 29) #[] #[], .int .i64 a0_2, .map none, .map (some B)] 55 (0, 0)) (by (with_reducible repeat first | refine bkN ?_ _ | refine bkd ?_ | refine bka ?_ _); exact BK199.out)) : gb199 ≠ gb200)); have n6_ := As0.mk ((by rw [hg]; exact Nat.ne_of_gt (blk_lt (g := gb199) (o := .cells #[.slice A0_0 l0_0.length c0_0, .func (.func 29) #[] #[], .int .i64 a0_2, .map none, .map (some B)] 55 (0, 0)) (by (with_reducible repeat first | refine bkN ?_ _ | refine bkd ?_ | refine bka ?_ _); exact BK199.out)) : gb200 ≠ gb199)); clear BK199; clear HB; have BK199 := n0_; have HB := n1_; have BK200 := n2_; have GW200 := n3_; have GE200 := n4_; have NB199_200 := n5_; have NB200_199 := n6_; clear n0_ n1_ n2_ n3_ n4_ n5_ n6_; clear hb hbox hg; have hnb7 := NB200_199.out; have hnc7 := NB199_200.out; have hcz8_0 : w6.cell? ⟨gb200, 0, none⟩ = some (.int .i64 a1_0) := (bkc BK200.out 0).trans rfl; have hcz8_1 : w6.cell? ⟨gb200, 1, none⟩ = some (.int .i64 a1_1) := (bkc BK200.out 1).trans rfl; have hcz8_2 : w6.cell? ⟨gb200, 2, none⟩ = some (.int .i64 a1_2) := (bkc BK200.out 2).trans rfl; have hfz8_0 := bkf BK200.out 0; have hfz8_1 := bkf BK200.out 1; have hfz8_2 := bkf BK200.out 2; have hcz9_0 : w6.cell? ⟨gb199, 0, none⟩ = some (.slice A0_0 l0_0.length c0_0) := (bkc BK199.out 0).trans rfl; have hcz9_1 : w6.cell? ⟨gb199, 1, none⟩ = some (.func (.func 29) #[] #[]) := (bkc BK199.out 1).trans rfl; have hcz9_2 : w6.cell? ⟨gb199, 2, none⟩ = some (.int .i64 a0_2) := (bkc BK199.out 2).trans rfl; have hcz9_3 : w6.cell? ⟨gb199, 3, none⟩ = some (.map none) := (bkc BK199.out 3).trans rfl; have hcz9_4 : w6.cell? ⟨gb199, 4, none⟩ = some (.map (some B)) := (bkc BK199.out 4).trans rfl; have hfz9_0 := bkf BK199.out 0; have hfz9_1 := bkf BK199.out 1; have hfz9_2 := bkf BK199.out 2; have hfz9_3 := bkf BK199.out 3; have hfz9_4 := bkf BK199.out 4) | (at_lookup; refine memo_hit HM.out rfl (.tmp 24) (.tmp 25) rfl rfl rfl HBX.out HH (fun _ hc => mixF_uniq hc HF.out) ?_))
     go_ret
     exact ⟨by first | rfl | (simp [eWn, eWs] <;> rfl) | (simp [*, eWn, eWs] <;> rfl), (by repeat (with_reducible first | exact HB.out | apply bal | apply pbN | apply bdw | refine bst ?_ GE199.out | refine bst ?_ GE200.out)), _, (by repeat (with_reducible first | exact HM.out | apply mal | apply mdN | apply mdw | apply mst (hne := NM199.out) | apply mst (hne := NM200.out) | apply mst (hne := NM206.out)))⟩
    replace HH := Bool.eq_false_iff.mpr HH
    go_enter Try.func38, Try.ntmps38
    go_wp2_with (first | ((with_reducible refine gate_dst (N := 2) rfl ?_); refine box_event ?hg (N := 2) ?hd (cs := #[.slice A0_0 l0_0.length c0_0, .func (.func 29) #[] #[], .int .i64 a0_2, .map none, .map (some B)]) (t := 55) ?hr ?_; (case hd => rfl); (case hg => rfl); (case hr => first | (go_simp; done) | (go_simp; rfl)); intro gb199 hg w17 hbox hb; have NM199 := As0.mk (memo_new (by repeat (with_reducible first | exact HM.out | apply mal | apply mdN | apply mdw | apply mst (hne := NM199.out) | apply mst (hne := NM200.out) | apply mst (hne := NM206.out))) hg); have HM_ := As0.mk (memo_below (by repeat (with_reducible first | exact HM.out | apply mal | apply mdN | apply mdw | apply mst (hne := NM199.out) | apply mst (hne := NM200.out) | apply mst (hne := NM206.out))) hb); clear HM; have HM := HM_; clear HM_; have n0_ := As0.mk (bsp (by repeat (with_reducible first | exact HB.out | apply bal | apply pbN | apply bdw)) hb); have n1_ := As0.mk (hbox); have n2_ := As0.mk ((by rw [hg]; exact (bsz (by repeat (with_reducible first | exact HB.out | apply bal | apply pbN | apply bdw))) : w0.heap.size ≤ gb199)); have n3_ := As0.mk ((by rw [hg]; exact (bsz (by repeat (with_reducible first | exact HB.out | apply bal | apply pbN | apply bdw))) : w0.heap.size ≤ gb199)); clear HB; have HB := n0_; have BK199 := n1_; have GW199 := n2_; have GE199 := n3_; clear n0_ n1_ n2_ n3_; clear hb hbox hg) | ((with_reducible refine gate_dst (N := 3) rfl ?_); refine box_event ?hg (N := 3) ?hd (cs := #[.int .i64 a1_0, .int .i64 a1_1, .int .i64 a1_2]) (t := 63) ?hr ?_; (case hd => rfl); (case hg => rfl); (case hr => first | (go_simp; done) | (go_simp; rfl)); intro gb200 hg w18 hbox hb; have NM200 := As0.mk (memo_new (by repeat (with_reducible first | exact HM.out | apply mal | apply mdN | apply mdw | apply mst (hne := NM199.out) | apply mst (hne := NM200.out) | apply mst (hne := NM206.out))) hg); have HM_ := As0.mk (memo_below (by repeat (with_reducible first | exact HM.out | apply mal | apply mdN | apply mdw | apply mst (hne := NM199.out) | apply mst (hne := NM200.out) | apply mst (hne := NM206.out))) hb); clear HM; have HM := HM_; clear HM_; have n0_ := As0.mk (bkb (g := gb199) (o := .cells #[.slice A0_0 l0_0.length c0_0, .func (.func 29) #[] #[], .int .i64 a0_2, .map none, .map (some B)] 55 (0, 0)) (by (with_reducible repeat first | refine bkN ?_ _ | refine bkd ?_ | refine bka ?_ _); exact BK199.out) hb); have n1_ := As0.mk (bsp (by repeat (with_reducible first | exact HB.out | apply bal | apply pbN | apply bdw | refine bst ?_ GE199.out)) hb); have n2_ := As0.mk (hbox); have n3_ := As0.mk ((by rw [hg]; exact (bsz (by repeat (with_reducible first | exact HB.out | apply bal | apply pbN | apply bdw | refine bst ?_ GE199.out))) : w0.heap.size ≤ gb200)); have n4_ := As0.mk ((by rw [hg]; exact (bsz (by repeat (with_reducible first | exact HB.out | apply bal | apply pbN | apply bdw | refine bst ?_ GE199.out))) : w0.heap.size ≤ gb200)); have n5_ := As0.mk ((by rw [hg]; exact Nat.ne_of_lt (blk_lt (g := gb199) (o := .cells #[.slice A0_0 l0_0.length c0_0, .func (.func 29) #[] #[], .int .i64 a0_2, .map none, .map (some B)] 55 (0, 0)) (by (with_reducible repeat first | refine bkN ?_ _ | refine bkd ?_ | refine bka ?_ _); exact BK199.out)) : gb199 ≠ gb200)); have n6_ := As0.mk ((by rw [hg]; exact Nat.ne_of_gt (blk_lt (g := gb199) (o := .cells #[.slice A0_0 l0_0.length c0_0, .func (.func 29) #[] #[], .int .i64 a0_2, .map none, .map (some B)] 55 (0, 0)) (by (with_reducible repeat first | refine bkN ?_ _ | refine bkd ?_ | refine bka ?_ _); exact BK199.out)) : gb200 ≠ gb199)); clear BK199; clear HB; have BK199 := n0_; have HB := n1_; have BK200 := n2_; have GW200 := n3_; have GE200 := n4_; have NB199_200 := n5_; have NB200_199 := n6_; clear n0_ n1_ n2_ n3_ n4_ n5_ n6_; clear hb hbox hg; have hnb19 := NB200_199.out; have hnc19 := NB199_200.out; have hcz20_0 : w18.cell? ⟨gb200, 0, none⟩ = some (.int .i64 a1_0) := (bkc BK200.out 0).trans rfl; have hcz20_1 : w18.cell? ⟨gb200, 1, none⟩ = some (.int .i64 a1_1) := (bkc BK200.out 1).trans rfl; have hcz20_2 : w18.cell? ⟨gb200, 2, none⟩ = some (.int .i64 a1_2) := (bkc BK200.out 2).trans rfl; have hfz20_0 := bkf BK200.out 0; have hfz20_1 := bkf BK200.out 1; have hfz20_2 := bkf BK200.out 2; have hcz21_0 : w18.cell? ⟨gb199, 0, none⟩ = some (.slice A0_0 l0_0.length c0_0) := (bkc BK199.out 0).trans rfl; have hcz21_1 : w18.cell? ⟨gb199, 1, none⟩ = some (.func (.func 29) #[] #[]) := (bkc BK199.out 1).trans rfl; have hcz21_2 : w18.cell? ⟨gb199, 2, none⟩ = some (.int .i64 a0_2) := (bkc BK199.out 2).trans rfl; have hcz21_3 : w18.cell? ⟨gb199, 3, none⟩ = some (.map none) := (bkc BK199.out 3).trans rfl; have hcz21_4 : w18.cell? ⟨gb199, 4, none⟩ = some (.map (some B)) := (bkc BK199.out 4).trans rfl; have hfz21_0 := bkf BK199.out 0; have hfz21_1 := bkf BK199.out 1; have hfz21_2 := bkf BK199.out 2; have hfz21_3 := bkf BK199.out 3; have hfz21_4 := bkf BK199.out 4; have p201 : 0 ≤ (a1_0 : Int) := of_decide_eq_true (by assumption); have q201 : a1_0 < (l0_0.length : Int) := of_decide_eq_true (by assumption); obtain ⟨ad201, e201, hx201_0, hx201_1, hx201_2, hx201_3⟩ := at_T46 HR0_0.out a1_0 p201 q201; cases e201; replace hx201_0 := (HB.out.cell (World.block_lt_of_cell? w0 _ hx201_0)).trans hx201_0; replace hx201_1 := (HB.out.cell (World.block_lt_of_cell? w0 _ hx201_1)).trans hx201_1; replace hx201_2 := (HB.out.cell (World.block_lt_of_cell? w0 _ hx201_2)).trans hx201_2; replace hx201_3 := (HB.out.cell (World.block_lt_of_cell? w0 _ hx201_3)).trans hx201_3; replace p201 := eq_true p201; replace q201 := eq_true q201) | (at_lookup; refine memo_miss HM.out rfl (.tmp 24) (.tmp 25) rfl rfl rfl HBX.out HH ?_; intro vm_))
    go_loopg [7, 39] k (fun kq v7 v39 w' => ∃ (x7_1 : Int) (x39_1 : Int) (D_ : DataW Unit), v7 = .int .i64 x7_1 ∧ v39 = .int .i64 x39_1 ∧ As0 (impl_mixes_least.l0 kq x7_1 (wrap64 (((rd_T46 l0_0 a1_0).f3) + 1)) x39_1 l0_0 0 a0_2 0 0 a1_0 a1_1 a1_2 = some r) ∧ As0 (kq ≤ k) ∧ As0 (w'.heap[gb199]? = some (.cells #[(.slice (some ad201) l0_0.length c0_0), .func (.func 29) #[] #[], .int .i64 a0_2, .map none, .map (some B)] 55 (0, 0))) ∧ As0 (w'.heap[gb200]? = some (.cells #[.int .i64 a1_0, .int .i64 a1_1, .int .i64 a1_2] 63 (0, 0))) ∧ As0 (Below w0.heap.size w0 w') ∧ As0 (MemoD (mixF l0_0 a0_2) B D_ w w') ∧ As0 ((Lit.int .i64 x7_1).wf = true) ∧ As0 (0 ≤ x39_1 ∧ x39_1 ≤ 21))
    case atStart => exact ⟨((-1)), (0), D, (by first | rfl | (simp; done) | (simp [*]; done)), (by first | rfl | (simp; done) | (simp [*]; done)), H', ⟨Nat.le_refl _⟩, ⟨by (with_reducible repeat first | refine bkN ?_ _ | refine bkd ?_ | refine bka ?_ _); exact BK199.out⟩, ⟨by (with_reducible repeat first | refine bkN ?_ _ | refine bkd ?_ | refine bka ?_ _); exact BK200.out⟩, ⟨by repeat (with_reducible first | exact HB.out | apply bal | apply pbN | apply bdw | refine bst ?_ GE199.out | refine bst ?_ GE200.out)⟩, ⟨(by repeat (with_reducible first | exact HM.out | apply mal | apply mdN | apply mdw | apply mst (hne := NM199.out) | apply mst (hne := NM200.out) | apply mst (hne := NM206.out)))⟩, ⟨by decide⟩, ⟨by omega⟩⟩
    case round =>
     clear H'
     try clear c1
     try clear p2
     try clear q2
     try clear hx2
     try clear c3
     try clear c3b0
     try clear c3b1
     try clear c4
     try clear c4b0
     try clear p6
     try clear c7
     try clear c12
     try clear c15
     try clear c15b0
     try clear c16
     try clear c16b0
     try clear c19
     try clear p20
     try clear q20
     try clear hx20
     try clear hcz13_0
     try clear hcz13_1
     try clear hcz13_2
     try clear hcz14_0
     try clear hcz14_1
     try clear hcz14_2
     try clear hcz14_3
     try clear hcz14_4
     try clear hcz20_0
     try clear hcz20_1
     try clear hcz20_2
     try clear hcz21_0
     try clear hcz21_1
     try clear hcz21_2
     try clear hcz21_3
     try clear hcz21_4
     try clear hcz8_0
     try clear hcz8_1
     try clear hcz8_2
     try clear hcz9_0
     try clear hcz9_1
     try clear hcz9_2
     try clear hcz9_3
     try clear hcz9_4
     try clear hfz13_0
     try clear hfz13_1
     try clear hfz13_2
     try clear hfz14_0
     try clear hfz14_1
     try clear hfz14_2
     try clear hfz14_3
     try clear hfz14_4
     try clear hfz20_0
     try clear hfz20_1
     try clear hfz20_2
     try clear hfz21_0
     try clear hfz21_1
     try clear hfz21_2
     try clear hfz21_3
     try clear hfz21_4
     try clear hfz8_0
     try clear hfz8_1
     try clear hfz8_2
     try clear hfz9_0
     try clear hfz9_1
     try clear hfz9_2
     try clear hfz9_3
     try clear hfz9_4
     try clear hx201_0
     try clear hx201_1
     try clear hx201_2
     try clear hx201_3
     try clear p201
     try clear q201
     obtain ⟨x7_1, x39_1, D_, rfl, rfl, HA, HK1, BK199, BK200, HB, HM, HWF, HX⟩ := hrel
     cases gk with
     | zero => exact absurd HA.out (by simp [impl_mixes_least.l0])
     | succ k1 =>
      have H := HA.out
      clear HA
      simp only [impl_mixes_least.l0] at H
      by_cases c22 : x39_1 < (wrap64 (((rd_T46 l0_0 a1_0).f3) + 1))
      ·as_aux_lemma =>
       rw [if_pos c22] at H
       have HX2 := As0.mk (mix_round HV.out HX.out c22)
       have c22b0 : decide (x39_1 < (wrap64 (((rd_T46 l0_0 a1_0).f3) + 1))) = true := decide_eq_true c22
       clear c22
       replace H := Option.bind_eq_some_iff.mp H
       obtain ⟨⟨t202, t203, t204, t205⟩, A230, H⟩ := H
       replace H : (if t205 = true then ((impl_mixes_least.f k1 l0_0 0 a0_2 0 0 t202 t203 t204).bind fun t207 => (if 0 ≤ a1_0 then (if a1_0 < (l0_0.length : Int) then ((impl_price.f ((rd_T46 l0_0 a1_0).f0) ((rd_T46 l0_0 a1_0).f1) ((rd_T46 l0_0 a1_0).f2) ((rd_T46 l0_0 a1_0).f3)).bind fun t209 => (if t207 ≥ 0 then (if x7_1 < 0 then (impl_mixes_least.l0 k1 (wrap64 (t207 + (wrap64 (x39_1 * t209)))) (wrap64 (((rd_T46 l0_0 a1_0).f3) + 1)) (wrap64 (x39_1 + 1)) l0_0 0 a0_2 0 0 a1_0 a1_1 a1_2) else (if (wrap64 (t207 + (wrap64 (x39_1 * t209)))) < x7_1 then (impl_mixes_least.l0 k1 (wrap64 (t207 + (wrap64 (x39_1 * t209)))) (wrap64 (((rd_T46 l0_0 a1_0).f3) + 1)) (wrap64 (x39_1 + 1)) l0_0 0 a0_2 0 0 a1_0 a1_1 a1_2) else (impl_mixes_least.l0 k1 x7_1 (wrap64 (((rd_T46 l0_0 a1_0).f3) + 1)) (wrap64 (x39_1 + 1)) l0_0 0 a0_2 0 0 a1_0 a1_1 a1_2))) else (impl_mixes_least.l0 k1 x7_1 (wrap64 (((rd_T46 l0_0 a1_0).f3) + 1)) (wrap64 (x39_1 + 1)) l0_0 0 a0_2 0 0 a1_0 a1_1 a1_2))) else (none)) else (none))) else (impl_mixes_least.l0 k1 x7_1 (wrap64 (((rd_T46 l0_0 a1_0).f3) + 1)) (wrap64 (x39_1 + 1)) l0_0 0 a0_2 0 0 a1_0 a1_1 a1_2)) = some r := H
       have A23 := As0.mk A230
       clear A230
       by_cases c24 : t205 = true
       ·as_aux_lemma =>
        subst c24
        have H1 : ((impl_mixes_least.f k1 l0_0 0 a0_2 0 0 t202 t203 t204).bind fun t207 => (if 0 ≤ a1_0 then (if a1_0 < (l0_0.length : Int) then ((impl_price.f ((rd_T46 l0_0 a1_0).f0) ((rd_T46 l0_0 a1_0).f1) ((rd_T46 l0_0 a1_0).f2) ((rd_T46 l0_0 a1_0).f3)).bind fun t209 => (if t207 ≥ 0 then (if x7_1 < 0 then (impl_mixes_least.l0 k1 (wrap64 (t207 + (wrap64 (x39_1 * t209)))) (wrap64 (((rd_T46 l0_0 a1_0).f3) + 1)) (wrap64 (x39_1 + 1)) l0_0 0 a0_2 0 0 a1_0 a1_1 a1_2) else (if (wrap64 (t207 + (wrap64 (x39_1 * t209)))) < x7_1 then (impl_mixes_least.l0 k1 (wrap64 (t207 + (wrap64 (x39_1 * t209)))) (wrap64 (((rd_T46 l0_0 a1_0).f3) + 1)) (wrap64 (x39_1 + 1)) l0_0 0 a0_2 0 0 a1_0 a1_1 a1_2) else (impl_mixes_least.l0 k1 x7_1 (wrap64 (((rd_T46 l0_0 a1_0).f3) + 1)) (wrap64 (x39_1 + 1)) l0_0 0 a0_2 0 0 a1_0 a1_1 a1_2))) else (impl_mixes_least.l0 k1 x7_1 (wrap64 (((rd_T46 l0_0 a1_0).f3) + 1)) (wrap64 (x39_1 + 1)) l0_0 0 a0_2 0 0 a1_0 a1_1 a1_2))) else (none)) else (none))) = some r := by rw [if_pos rfl] at H; exact H
        clear H
        have H := H1
        clear H1
        replace H := Option.bind_eq_some_iff.mp H
        obtain ⟨t207, A250, H⟩ := H
        replace H : (if 0 ≤ a1_0 then (if a1_0 < (l0_0.length : Int) then ((impl_price.f ((rd_T46 l0_0 a1_0).f0) ((rd_T46 l0_0 a1_0).f1) ((rd_T46 l0_0 a1_0).f2) ((rd_T46 l0_0 a1_0).f3)).bind fun t209 => (if t207 ≥ 0 then (if x7_1 < 0 then (impl_mixes_least.l0 k1 (wrap64 (t207 + (wrap64 (x39_1 * t209)))) (wrap64 (((rd_T46 l0_0 a1_0).f3) + 1)) (wrap64 (x39_1 + 1)) l0_0 0 a0_2 0 0 a1_0 a1_1 a1_2) else (if (wrap64 (t207 + (wrap64 (x39_1 * t209)))) < x7_1 then (impl_mixes_least.l0 k1 (wrap64 (t207 + (wrap64 (x39_1 * t209)))) (wrap64 (((rd_T46 l0_0 a1_0).f3) + 1)) (wrap64 (x39_1 + 1)) l0_0 0 a0_2 0 0 a1_0 a1_1 a1_2) else (impl_mixes_least.l0 k1 x7_1 (wrap64 (((rd_T46 l0_0 a1_0).f3) + 1)) (wrap64 (x39_1 + 1)) l0_0 0 a0_2 0 0 a1_0 a1_1 a1_2))) else (impl_mixes_least.l0 k1 x7_1 (wrap64 (((rd_T46 l0_0 a1_0).f3) + 1)) (wrap64 (x39_1 + 1)) l0_0 0 a0_2 0 0 a1_0 a1_1 a1_2))) else (none)) else (none)) = some r := H
        have A25 := As0.mk A250
        clear A250
        by_cases c26 : 0 ≤ a1_0
        ·as_aux_lemma =>
         rw [if_pos c26] at H
         have c26b0 : decide (0 ≤ a1_0) = true := decide_eq_true c26
         clear c26
         by_cases c27 : a1_0 < (l0_0.length : Int)
         ·as_aux_lemma =>
          rw [if_pos c27] at H
          have c27b0 : decide (a1_0 < (l0_0.length : Int)) = true := decide_eq_true c27
          clear c27
          replace H := Option.bind_eq_some_iff.mp H
          obtain ⟨t209, A280, H⟩ := H
          replace H : (if t207 ≥ 0 then (if x7_1 < 0 then (impl_mixes_least.l0 k1 (wrap64 (t207 + (wrap64 (x39_1 * t209)))) (wrap64 (((rd_T46 l0_0 a1_0).f3) + 1)) (wrap64 (x39_1 + 1)) l0_0 0 a0_2 0 0 a1_0 a1_1 a1_2) else (if (wrap64 (t207 + (wrap64 (x39_1 * t209)))) < x7_1 then (impl_mixes_least.l0 k1 (wrap64 (t207 + (wrap64 (x39_1 * t209)))) (wrap64 (((rd_T46 l0_0 a1_0).f3) + 1)) (wrap64 (x39_1 + 1)) l0_0 0 a0_2 0 0 a1_0 a1_1 a1_2) else (impl_mixes_least.l0 k1 x7_1 (wrap64 (((rd_T46 l0_0 a1_0).f3) + 1)) (wrap64 (x39_1 + 1)) l0_0 0 a0_2 0 0 a1_0 a1_1 a1_2))) else (impl_mixes_least.l0 k1 x7_1 (wrap64 (((rd_T46 l0_0 a1_0).f3) + 1)) (wrap64 (x39_1 + 1)) l0_0 0 a0_2 0 0 a1_0 a1_1 a1_2)) = some r := H
          have A28 := As0.mk A280
          clear A280
          by_cases c29 : t207 ≥ 0
          ·as_aux_lemma =>
           rw [if_pos c29] at H
           have c29b0 : decide (0 ≤ t207) = true := decide_eq_true c29
           clear c29
           by_cases c30 : x7_1 < 0
           ·as_aux_lemma =>
            rw [if_pos c30] at H
            have c30b0 : decide (x7_1 < 0) = true := decide_eq_true c30
            clear c30
            have H' := As0.mk H
            clear H
            have hnb31 := NB199_200.out
            have hnc31 := NB200_199.out
            have hcz32_0 : wr.cell? ⟨gb199, 0, none⟩ = some (.slice (some ad201) l0_0.length c0_0) := (bkc BK199.out 0).trans rfl
            have hcz32_1 : wr.cell? ⟨gb199, 1, none⟩ = some (.func (.func 29) #[] #[]) := (bkc BK199.out 1).trans rfl
            have hcz32_2 : wr.cell? ⟨gb199, 2, none⟩ = some (.int .i64 a0_2) := (bkc BK199.out 2).trans rfl
            have hcz32_3 : wr.cell? ⟨gb199, 3, none⟩ = some (.map none) := (bkc BK199.out 3).trans rfl
            have hcz32_4 : wr.cell? ⟨gb199, 4, none⟩ = some (.map (some B)) := (bkc BK199.out 4).trans rfl
            have hfz32_0 := bkf BK199.out 0
            have hfz32_1 := bkf BK199.out 1
            have hfz32_2 := bkf BK199.out 2
            have hfz32_3 := bkf BK199.out 3
            have hfz32_4 := bkf BK199.out 4
            have hcz33_0 : wr.cell? ⟨gb200, 0, none⟩ = some (.int .i64 a1_0) := (bkc BK200.out 0).trans rfl
            have hcz33_1 : wr.cell? ⟨gb200, 1, none⟩ = some (.int .i64 a1_1) := (bkc BK200.out 1).trans rfl
            have hcz33_2 : wr.cell? ⟨gb200, 2, none⟩ = some (.int .i64 a1_2) := (bkc BK200.out 2).trans rfl
            have hfz33_0 := bkf BK200.out 0
            have hfz33_1 := bkf BK200.out 1
            have hfz33_2 := bkf BK200.out 2
            try go_wp2_with (first | ((with_reducible refine gce (f := 39) rfl ?_); refine goesL_ (some 46) rfl rfl Try.func39 (by kernel_rfl) rfl #[.agg #[.slice (some ad201) l0_0.length c0_0, .func (.func 29) #[] #[], .int .i64 a0_2, .map none, .map (some B)], .agg #[.int .i64 a1_0, .int .i64 a1_1, .int .i64 a1_2], .int .i64 x39_1] rfl (by (try simp only [List.map_toArray, List.map_cons, List.map_nil]); first | done | rfl | (simp only [List.length_drop, List.length_take]; rfl)) ?_; (with_reducible refine (impl_mixes_after.calls _ _ l0_0 a0_2 (some B) a1_0 a1_1 a1_2 x39_1 t202 t203 t204 true _ ?side1 ?side2 A23.out).mono ?_); (case side1 => repeat (first | exact (Kd.C_below HR0_0.out HB.out) | (with_reducible refine Kd.C_alloc ?_ _) | (with_reducible refine Kd.C_drewN ?_ _) | (with_reducible refine Kd.C_drew ?_))); (case side2 => exact HC0_0.out); rintro e w34 ⟨rfl, hb⟩; refine ⟨_, rfl, ?_⟩; have HM_ := As0.mk (memo_below (by repeat (with_reducible first | exact HM.out | apply mal | apply mdN | apply mdw | apply mst (hne := NM199.out) | apply mst (hne := NM200.out) | apply mst (hne := NM206.out))) hb); clear HM; have HM := HM_; clear HM_; have n0_ := As0.mk (bkb (g := gb199) (o := .cells #[.slice (some ad201) l0_0.length c0_0, .func (.func 29) #[] #[], .int .i64 a0_2, .map none, .map (some B)] 55 (0, 0)) (by (with_reducible repeat first | refine bkN ?_ _ | refine bkd ?_ | refine bka ?_ _); exact BK199.out) hb); have n1_ := As0.mk (bkb (g := gb200) (by (with_reducible repeat first | refine bkN ?_ _ | refine bkd ?_ | refine bka ?_ _); exact BK200.out) hb); have n2_ := As0.mk (bsp (by repeat (with_reducible first | exact HB.out | apply bal | apply pbN | apply bdw | refine bst ?_ GE199.out | refine bst ?_ GE200.out)) hb); clear BK199; clear BK200; clear HB; have BK199 := n0_; have BK200 := n1_; have HB := n2_; clear n0_ n1_ n2_; (try clear hb); (try clear hb2); (try clear hk); (try clear hi)) | ((with_reducible refine gate_dst (N := 9) rfl ?_); refine box_event ?hg (N := 9) ?hd (cs := #[.int .i64 0, .int .i64 0, .int .i64 0]) (t := 63) ?hr ?_; (case hd => rfl); (case hg => rfl); (case hr => first | (go_simp; done) | (go_simp; rfl)); intro gb206 hg w35 hbox hb; have NM206 := As0.mk (memo_new (by repeat (with_reducible first | exact HM.out | apply mal | apply mdN | apply mdw | apply mst (hne := NM199.out) | apply mst (hne := NM200.out) | apply mst (hne := NM206.out))) hg); have HM_ := As0.mk (memo_below (by repeat (with_reducible first | exact HM.out | apply mal | apply mdN | apply mdw | apply mst (hne := NM199.out) | apply mst (hne := NM200.out) | apply mst (hne := NM206.out))) hb); clear HM; have HM := HM_; clear HM_; have n0_ := As0.mk (bkb (g := gb199) (o := .cells #[.slice (some ad201) l0_0.length c0_0, .func (.func 29) #[] #[], .int .i64 a0_2, .map none, .map (some B)] 55 (0, 0)) (by (with_reducible repeat first | refine bkN ?_ _ | refine bkd ?_ | refine bka ?_ _); exact BK199.out) hb); have n1_ := As0.mk (bkb (g := gb200) (by (with_reducible repeat first | refine bkN ?_ _ | refine bkd ?_ | refine bka ?_ _); exact BK200.out) hb); have n2_ := As0.mk (bsp (by repeat (with_reducible first | exact HB.out | apply bal | apply pbN | apply bdw | refine bst ?_ GE199.out | refine bst ?_ GE200.out)) hb); have n3_ := As0.mk (hbox); have n4_ := As0.mk ((by rw [hg]; exact (bsz (by repeat (with_reducible first | exact HB.out | apply bal | apply pbN | apply bdw | refine bst ?_ GE199.out | refine bst ?_ GE200.out))) : w0.heap.size ≤ gb206)); have n5_ := As0.mk ((by rw [hg]; exact (bsz (by repeat (with_reducible first | exact HB.out | apply bal | apply pbN | apply bdw | refine bst ?_ GE199.out | refine bst ?_ GE200.out))) : w0.heap.size ≤ gb206)); have n6_ := As0.mk ((by rw [hg]; exact Nat.ne_of_lt (blk_lt (g := gb199) (o := .cells #[.slice (some ad201) l0_0.length c0_0, .func (.func 29) #[] #[], .int .i64 a0_2, .map none, .map (some B)] 55 (0, 0)) (by (with_reducible repeat first | refine bkN ?_ _ | refine bkd ?_ | refine bka ?_ _); exact BK199.out)) : gb199 ≠ gb206)); have n7_ := As0.mk ((by rw [hg]; exact Nat.ne_of_gt (blk_lt (g := gb199) (o := .cells #[.slice (some ad201) l0_0.length c0_0, .func (.func 29) #[] #[], .int .i64 a0_2, .map none, .map (some B)] 55 (0, 0)) (by (with_reducible repeat first | refine bkN ?_ _ | refine bkd ?_ | refine bka ?_ _); exact BK199.out)) : gb206 ≠ gb199)); have n8_ := As0.mk ((by rw [hg]; exact Nat.ne_of_lt (blk_lt (g := gb200) (o := .cells #[.int .i64 a1_0, .int .i64 a1_1, .int .i64 a1_2] 63 (0, 0)) (by (with_reducible repeat first | refine bkN ?_ _ | refine bkd ?_ | refine bka ?_ _); exact BK200.out)) : gb200 ≠ gb206)); have n9_ := As0.mk ((by rw [hg]; exact Nat.ne_of_gt (blk_lt (g := gb200) (o := .cells #[.int .i64 a1_0, .int .i64 a1_1, .int .i64 a1_2] 63 (0, 0)) (by (with_reducible repeat first | refine bkN ?_ _ | refine bkd ?_ | refine bka ?_ _); exact BK200.out)) : gb206 ≠ gb200)); clear BK199; clear BK200; clear HB; have BK199 := n0_; have BK200 := n1_; have HB := n2_; have BK206 := n3_; have GW206 := n4_; have GE206 := n5_; have NB199_206 := n6_; have NB206_199 := n7_; have NB200_206 := n8_; have NB206_200 := n9_; clear n0_ n1_ n2_ n3_ n4_ n5_ n6_ n7_ n8_ n9_; clear hb hbox hg; have hnb36 := NB206_199.out; have hnc36 := NB199_206.out; have hnb37 := NB206_200.out; have hnc37 := NB200_206.out; have hcz38_0 : w35.cell? ⟨gb206, 0, none⟩ = some (.int .i64 0) := (bkc BK206.out 0).trans rfl; have hcz38_1 : w35.cell? ⟨gb206, 1, none⟩ = some (.int .i64 0) := (bkc BK206.out 1).trans rfl; have hcz38_2 : w35.cell? ⟨gb206, 2, none⟩ = some (.int .i64 0) := (bkc BK206.out 2).trans rfl; have hfz38_0 := bkf BK206.out 0; have hfz38_1 := bkf BK206.out 1; have hfz38_2 := bkf BK206.out 2; have hcz39_0 : w35.cell? ⟨gb199, 0, none⟩ = some (.slice (some ad201) l0_0.length c0_0) := (bkc BK199.out 0).trans rfl; have hcz39_1 : w35.cell? ⟨gb199, 1, none⟩ = some (.func (.func 29) #[] #[]) := (bkc BK199.out 1).trans rfl; have hcz39_2 : w35.cell? ⟨gb199, 2, none⟩ = some (.int .i64 a0_2) := (bkc BK199.out 2).trans rfl; have hcz39_3 : w35.cell? ⟨gb199, 3, none⟩ = some (.map none) := (bkc BK199.out 3).trans rfl; have hcz39_4 : w35.cell? ⟨gb199, 4, none⟩ = some (.map (some B)) := (bkc BK199.out 4).trans rfl; have hfz39_0 := bkf BK199.out 0; have hfz39_1 := bkf BK199.out 1; have hfz39_2 := bkf BK199.out 2; have hfz39_3 := bkf BK199.out 3; have hfz39_4 := bkf BK199.out 4) | ((with_reducible refine gce (f := 38) rfl ?_); refine goesL_ (some 53) rfl rfl Try.func38 (by kernel_rfl) rfl #[.agg #[.slice (some ad201) l0_0.length c0_0, .func (.func 29) #[] #[], .int .i64 a0_2, .map none, .map (some B)], .agg #[.int .i64 t202, .int .i64 t203, .int .i64 t204]] rfl (by (try simp only [List.map_toArray, List.map_cons, List.map_nil]); first | done | rfl | (simp only [List.length_drop, List.length_take]; rfl)) ?_; (with_reducible refine (ih k1 (by have := HK1.out; omega) _ _ l0_0 a0_2 B t202 t203 t204 t207 _ w0 _ HV.out (after_box HV.out HBX.out HX2.out.1 A23.out) HB0.out (by repeat (with_reducible first | exact HB.out | apply bal | apply pbN | apply bdw | refine bst ?_ GE199.out | refine bst ?_ GE200.out | refine bst ?_ GE206.out)) (memo_self (by repeat (with_reducible first | exact HM.out | apply mal | apply mdN | apply mdw | apply mst (hne := NM199.out) | apply mst (hne := NM200.out) | apply mst (hne := NM206.out)))) ?side1 ?side2 A25.out).mono ?_); (case side1 => exact HR0_0.out); (case side2 => exact HC0_0.out); rintro e w40 ⟨rfl, hb, D2_, hM⟩; refine ⟨_, rfl, ?_⟩; have HM_ := As0.mk (memo_trans (by repeat (with_reducible first | exact HM.out | apply mal | apply mdN | apply mdw | apply mst (hne := NM199.out) | apply mst (hne := NM200.out) | apply mst (hne := NM206.out))) hM); clear HM; have HM := HM_; clear HM_; have n0_ := As0.mk (memo_blk (g := gb199) (o := .cells #[.slice (some ad201) l0_0.length c0_0, .func (.func 29) #[] #[], .int .i64 a0_2, .map none, .map (some B)] 55 (0, 0)) hM (by (with_reducible repeat first | refine bkN ?_ _ | refine bkd ?_ | refine bka ?_ _); refine blk_far ?_ NB199_206.out _; (with_reducible repeat first | refine bkN ?_ _ | refine bkd ?_ | refine bka ?_ _); refine blk_far ?_ NB199_206.out _; (with_reducible repeat first | refine bkN ?_ _ | refine bkd ?_ | refine bka ?_ _); refine blk_far ?_ NB199_206.out _; (with_reducible repeat first | refine bkN ?_ _ | refine bkd ?_ | refine bka ?_ _); exact BK199.out) NM199.out.1); have n1_ := As0.mk (memo_blk (g := gb200) (o := .cells #[.int .i64 a1_0, .int .i64 a1_1, .int .i64 a1_2] 63 (0, 0)) hM (by (with_reducible repeat first | refine bkN ?_ _ | refine bkd ?_ | refine bka ?_ _); refine blk_far ?_ NB200_206.out _; (with_reducible repeat first | refine bkN ?_ _ | refine bkd ?_ | refine bka ?_ _); refine blk_far ?_ NB200_206.out _; (with_reducible repeat first | refine bkN ?_ _ | refine bkd ?_ | refine bka ?_ _); refine blk_far ?_ NB200_206.out _; (with_reducible repeat first | refine bkN ?_ _ | refine bkd ?_ | refine bka ?_ _); exact BK200.out) NM200.out.1); have n2_ := As0.mk (memo_blk (g := gb206) (o := .cells #[.int .i64 t202, .int .i64 t203, .int .i64 t204] 63 (0, 0)) hM (by (with_reducible repeat first | refine bkN ?_ _ | refine bkd ?_ | refine bka ?_ _); refine blk_put (cs := #[.int .i64 t202, .int .i64 t203, .int .i64 0]) ?_ 2 _ rfl; (with_reducible repeat first | refine bkN ?_ _ | refine bkd ?_ | refine bka ?_ _); refine blk_put (cs := #[.int .i64 t202, .int .i64 0, .int .i64 0]) ?_ 1 _ rfl; (with_reducible repeat first | refine bkN ?_ _ | refine bkd ?_ | refine bka ?_ _); refine blk_put (cs := #[.int .i64 0, .int .i64 0, .int .i64 0]) ?_ 0 _ rfl; (with_reducible repeat first | refine bkN ?_ _ | refine bkd ?_ | refine bka ?_ _); exact BK206.out) NM206.out.1); have n3_ := As0.mk (hb); clear BK199; clear BK200; clear BK206; clear HB; have BK199 := n0_; have BK200 := n1_; have BK206 := n2_; have HB := n3_; clear n0_ n1_ n2_ n3_; (try clear hM); (try clear hb); (try clear hb2); (try clear hk); (try clear hi)))
            have n0_ := As0.mk (bkd BK199.out)
            have n1_ := As0.mk (bkd BK200.out)
            have n2_ := As0.mk (bkd BK206.out)
            have n3_ := As0.mk (bdw HB.out)
            replace HM := As0.mk (mdw HM.out)
            clear BK199
            clear BK200
            clear BK206
            clear HB
            have BK199 := n0_
            have BK200 := n1_
            have BK206 := n2_
            have HB := n3_
            clear n0_ n1_ n2_ n3_
            have p208 : 0 ≤ (a1_0 : Int) := of_decide_eq_true (by assumption)
            have q208 : a1_0 < (l0_0.length : Int) := of_decide_eq_true (by assumption)
            obtain ⟨ad208, e208, hx208_0, hx208_1, hx208_2, hx208_3⟩ := at_T46 HR0_0.out a1_0 p208 q208
            have hw208_3 := hx208_3
            have hw208_2 := hx208_2
            have hw208_1 := hx208_1
            have hw208_0 := hx208_0
            obtain rfl : ad201 = ad208 := (by injection e208)
            replace hx208_0 := (HB.out.cell (World.block_lt_of_cell? w0 _ hx208_0)).trans hx208_0
            replace hx208_1 := (HB.out.cell (World.block_lt_of_cell? w0 _ hx208_1)).trans hx208_1
            replace hx208_2 := (HB.out.cell (World.block_lt_of_cell? w0 _ hx208_2)).trans hx208_2
            replace hx208_3 := (HB.out.cell (World.block_lt_of_cell? w0 _ hx208_3)).trans hx208_3
            replace p208 := eq_true p208
            replace q208 := eq_true q208
            refine start_ (n := 14) (S := fun w' => w'.cell? ⟨gb199, 0, none⟩ = some (.slice (some ad201) l0_0.length c0_0) ∧ w'.cell? ⟨gb199, 1, none⟩ = some (.func (.func 29) #[] #[]) ∧ w'.cell? ⟨gb199, 2, none⟩ = some (.int .i64 a0_2) ∧ w'.cell? ⟨gb199, 3, none⟩ = some (.map none) ∧ w'.cell? ⟨gb199, 4, none⟩ = some (.map (some B)) ∧ w'.cell? ⟨gb200, 0, none⟩ = some (.int .i64 a1_0) ∧ w'.cell? ⟨gb200, 1, none⟩ = some (.int .i64 a1_1) ∧ w'.cell? ⟨gb200, 2, none⟩ = some (.int .i64 a1_2) ∧ w'.cell? (ad201.add ((a1_0).toNat * 4)) = some (.string ((rd_T46 l0_0 a1_0).f0)) ∧ w'.cell? ⟨(ad201.add ((a1_0).toNat * 4)).block, (ad201.add ((a1_0).toNat * 4)).off + 1, none⟩ = some (.int .i64 ((rd_T46 l0_0 a1_0).f1)) ∧ w'.cell? ⟨(ad201.add ((a1_0).toNat * 4)).block, (ad201.add ((a1_0).toNat * 4)).off + 2, none⟩ = some (.int .i64 ((rd_T46 l0_0 a1_0).f2)) ∧ w'.cell? ⟨(ad201.add ((a1_0).toNat * 4)).block, (ad201.add ((a1_0).toNat * 4)).off + 3, none⟩ = some (.int .i64 ((rd_T46 l0_0 a1_0).f3))) (ds := []) #[false, false, false, false, false, false, false, false, false, false, false, false, false, false] (by kernel_rfl) rfl rfl ⟨(bkc BK199.out 0).trans rfl, (bkc BK199.out 1).trans rfl, (bkc BK199.out 2).trans rfl, (bkc BK199.out 3).trans rfl, (bkc BK199.out 4).trans rfl, (bkc BK200.out 0).trans rfl, (bkc BK200.out 1).trans rfl, (bkc BK200.out 2).trans rfl, ((HB.out.cell (World.block_lt_of_cell? w0 _ hw208_0)).trans hw208_0), ((HB.out.cell (World.block_lt_of_cell? w0 _ hw208_1)).trans hw208_1), ((HB.out.cell (World.block_lt_of_cell? w0 _ hw208_2)).trans hw208_2), ((HB.out.cell (World.block_lt_of_cell? w0 _ hw208_3)).trans hw208_3)⟩ (fun hHeld => ?_); refine with_tabW impl_mixes_least.tab15 impl_mixes_least.bits15 (fun HT_ HW_ => ?_)
            generalize w40.drew = w41 at HM BK199 BK200 BK206 HB hx208_0 hx208_1 hx208_2 hx208_3 hHeld ⊢
            refine pure_ (i := 0) (N := some 54) (v := ?_) (a' := ?_) #[true, false, false, false, false, false, false, false, false, false, false, false, false, false] rfl rfl (any_of HT_.out (by kernel_rfl)) (fun _ _ _ h => h) (Or.inl ⟨by rfl, ?_⟩) ?_ ?_
            rotate_left
            ·intro w'
             go_simp
             with_reducible rfl
            rotate_left
            ·simp only [Act.put, sla, slz, sls, i64_w, i32_w]
             rfl
            refine pure_ (i := 1) (N := some 55) (v := ?_) (a' := ?_) #[true, true, false, false, false, false, false, false, false, false, false, false, false, false] rfl rfl (any_of HT_.out (by kernel_rfl)) (fun _ _ _ h => h) (Or.inl ⟨by rfl, ?_⟩) ?_ ?_
            rotate_left
            ·intro w'
             go_simp
             with_reducible rfl
            rotate_left
            ·simp only [Act.put, sla, slz, sls, i64_w, i32_w]
             rfl
            refine pure_ (i := 2) (N := some 56) (v := ?_) (a' := ?_) #[true, true, true, false, false, false, false, false, false, false, false, false, false, false] rfl rfl (any_of HT_.out (by kernel_rfl)) (fun _ _ _ h => h) (Or.inl ⟨by rfl, ?_⟩) ?_ ?_
            rotate_left
            ·intro w'
             go_simp
             with_reducible rfl
            rotate_left
            ·simp only [Act.put, sla, slz, sls, i64_w, i32_w]
             rfl
            refine pure_ (i := 4) (N := some 58) (v := ?_) (a' := ?_) #[true, true, true, false, true, false, false, false, false, false, false, false, false, false] rfl rfl (any_of HT_.out (by kernel_rfl)) (fun _ _ _ h => h) (Or.inl ⟨by rfl, ?_⟩) ?_ ?_
            rotate_left
            ·intro w'
             go_simp
             with_reducible rfl
            rotate_left
            ·simp only [Act.put, sla, slz, sls, i64_w, i32_w]
             rfl
            refine pure_ (i := 6) (N := some 60) (v := ?_) (a' := ?_) #[true, true, true, false, true, false, true, false, false, false, false, false, false, false] rfl rfl (any_of HT_.out (by kernel_rfl)) (fun _ _ _ h => h) (Or.inl ⟨by rfl, ?_⟩) ?_ ?_
            rotate_left
            ·intro w'
             go_simp
             with_reducible rfl
            rotate_left
            ·simp only [Act.put, sla, slz, sls, i64_w, i32_w]
             rfl
            refine take_ (i := 3) (N := some 57) (v := ?_) (a' := ?_) #[true, true, true, true, true, false, true, false, false, false, false, false, false, false] rfl rfl (take_ofW HT_.out HW_.out (by kernel_rfl)) (fun _ _ _ h => h) (Or.inl ⟨by rfl, ?_⟩) hHeld ?_ ?_
            rotate_left
            ·rintro w' ⟨s0, s1, s2, s3, s4, s5, s6, s7, s8, s9, s10, s11⟩
             go_simp
             with_reducible rfl
            rotate_left
            ·simp only [Act.put, sla, slz, sls, i64_w, i32_w]
             rfl
            refine take_ (i := 5) (N := some 59) (v := ?_) (a' := ?_) #[true, true, true, true, true, true, true, false, false, false, false, false, false, false] rfl rfl (take_ofW HT_.out HW_.out (by kernel_rfl)) (fun _ _ _ h => h) (Or.inl ⟨by rfl, ?_⟩) hHeld ?_ ?_
            rotate_left
            ·rintro w' ⟨s0, s1, s2, s3, s4, s5, s6, s7, s8, s9, s10, s11⟩
             go_simp
             with_reducible rfl
            rotate_left
            ·simp only [Act.put, sla, slz, sls, i64_w, i32_w]
             rfl
            refine take_ (i := 7) (N := some 61) (v := ?_) (a' := ?_) #[true, true, true, true, true, true, true, true, false, false, false, false, false, false] rfl rfl (take_ofW HT_.out HW_.out (by kernel_rfl)) (fun _ _ _ h => h) (Or.inl ⟨by rfl, ?_⟩) hHeld ?_ ?_
            rotate_left
            ·rintro w' ⟨s0, s1, s2, s3, s4, s5, s6, s7, s8, s9, s10, s11⟩
             go_simp
             with_reducible rfl
            rotate_left
            ·simp only [Act.put, sla, slz, sls, i64_w, i32_w]
             rfl
            refine pure_ (i := 8) (N := some 62) (v := ?_) (a' := ?_) #[true, true, true, true, true, true, true, true, true, false, false, false, false, false] rfl rfl (any_of HT_.out (by kernel_rfl)) (fun _ _ _ h => h) (Or.inl ⟨by rfl, ?_⟩) ?_ ?_
            rotate_left
            ·intro w'
             go_simp
             with_reducible rfl
            rotate_left
            ·simp only [Act.put, sla, slz, sls, i64_w, i32_w]
             rfl
            refine take_ (i := 9) (N := some 63) (v := ?_) (a' := ?_) #[true, true, true, true, true, true, true, true, true, true, false, false, false, false] rfl rfl (take_ofW HT_.out HW_.out (by kernel_rfl)) (fun _ _ _ h => h) (Or.inl ⟨by rfl, ?_⟩) hHeld ?_ ?_
            rotate_left
            ·rintro w' ⟨s0, s1, s2, s3, s4, s5, s6, s7, s8, s9, s10, s11⟩
             go_simp
             with_reducible rfl
            rotate_left
            ·simp only [Act.put, sla, slz, sls, i64_w, i32_w]
             rfl
            refine one_ (i := 10) (N := some 64) #[true, true, true, true, true, true, true, true, true, true, true, false, false, false] rfl rfl (one_of HT_.out (by kernel_rfl)) (by decide) (fun K hK => ?_)
            refine goesV_ Try.func29 (by kernel_rfl) rfl #[.agg #[.string ((rd_T46 l0_0 a1_0).f0), .int .i64 ((rd_T46 l0_0 a1_0).f1), .int .i64 ((rd_T46 l0_0 a1_0).f2), .int .i64 ((rd_T46 l0_0 a1_0).f3)]] (by rfl) rfl rfl (by rfl) (by (try simp only [List.map_toArray, List.map_cons, List.map_nil]); first | done | rfl | (simp only [List.length_drop, List.length_take]; rfl)) ?_
            with_reducible refine (impl_price.calls ((rd_T46 l0_0 a1_0).f0) ((rd_T46 l0_0 a1_0).f1) ((rd_T46 l0_0 a1_0).f2) ((rd_T46 l0_0 a1_0).f3) t209 _ A28.out).mono ?_
            rintro e w42 ⟨rfl, hb⟩
            refine ⟨_, rfl, ?_⟩
            have HM_ := As0.mk (memo_below (by repeat (with_reducible first | exact HM.out | apply mal | apply mdN | apply mdw | apply mst (hne := NM199.out) | apply mst (hne := NM200.out) | apply mst (hne := NM206.out))) hb); clear HM; have HM := HM_; clear HM_
            have n0_ := As0.mk (bkb (g := gb199) (o := .cells #[.slice (some ad201) l0_0.length c0_0, .func (.func 29) #[] #[], .int .i64 a0_2, .map none, .map (some B)] 55 (0, 0)) (by (with_reducible repeat first | refine bkN ?_ _ | refine bkd ?_ | refine bka ?_ _); exact BK199.out) hb)
            have n1_ := As0.mk (bkb (g := gb200) (by (with_reducible repeat first | refine bkN ?_ _ | refine bkd ?_ | refine bka ?_ _); exact BK200.out) hb)
            have n2_ := As0.mk (bkb (g := gb206) (by (with_reducible repeat first | refine bkN ?_ _ | refine bkd ?_ | refine bka ?_ _); exact BK206.out) hb)
            have n3_ := As0.mk (bsp (by repeat (with_reducible first | exact HB.out | apply bal | apply pbN | apply bdw | refine bst ?_ GE199.out | refine bst ?_ GE200.out | refine bst ?_ GE206.out)) hb)
            clear BK199
            clear BK200
            clear BK206
            clear HB
            have BK199 := n0_
            have BK200 := n1_
            have BK206 := n2_
            have HB := n3_
            clear n0_ n1_ n2_ n3_
            (try clear hb)
            (try clear hb2)
            (try clear hk)
            (try clear hi)
            refine hK.out _ _ ⟨(bkc BK199.out 0).trans rfl, (bkc BK199.out 1).trans rfl, (bkc BK199.out 2).trans rfl, (bkc BK199.out 3).trans rfl, (bkc BK199.out 4).trans rfl, (bkc BK200.out 0).trans rfl, (bkc BK200.out 1).trans rfl, (bkc BK200.out 2).trans rfl, ((HB.out.cell (World.block_lt_of_cell? w0 _ hw208_0)).trans hw208_0), ((HB.out.cell (World.block_lt_of_cell? w0 _ hw208_1)).trans hw208_1), ((HB.out.cell (World.block_lt_of_cell? w0 _ hw208_2)).trans hw208_2), ((HB.out.cell (World.block_lt_of_cell? w0 _ hw208_3)).trans hw208_3)⟩ (fun hHeld => ?_)
            clear hK K
            refine norm_ (a' := ?_) ?_ ?_
            rotate_left
            ·show Act.put _ (some 64) _ = _
             simp only [Act.put, sla, slz, sls, i64_w, i32_w]
             rfl
            refine pure_ (i := 11) (N := some 65) (v := ?_) (a' := ?_) #[true, true, true, true, true, true, true, true, true, true, true, true, false, false] rfl rfl (any_of HT_.out (by kernel_rfl)) (fun _ _ _ h => h) (Or.inl ⟨by rfl, ?_⟩) ?_ ?_
            rotate_left
            ·intro w'
             go_simp
             with_reducible rfl
            rotate_left
            ·simp only [Act.put, sla, slz, sls, i64_w, i32_w]
             rfl
            refine pure_ (i := 12) (N := some 66) (v := ?_) (a' := ?_) #[true, true, true, true, true, true, true, true, true, true, true, true, true, false] rfl rfl (any_of HT_.out (by kernel_rfl)) (fun _ _ _ h => h) (Or.inl ⟨by rfl, ?_⟩) ?_ ?_
            rotate_left
            ·intro w'
             go_simp
             with_reducible rfl
            rotate_left
            ·simp only [Act.put, sla, slz, sls, i64_w, i32_w]
             rfl
            refine pure_ (i := 13) (N := some 12) (v := ?_) (a' := ?_) #[true, true, true, true, true, true, true, true, true, true, true, true, true, true] rfl rfl (any_of HT_.out (by kernel_rfl)) (fun _ _ _ h => h) (Or.inl ⟨by rfl, ?_⟩) ?_ ?_
            rotate_left
            ·intro w'
             go_simp
             with_reducible rfl
            rotate_left
            ·simp only [Act.put, sla, slz, sls, i64_w, i32_w]
             rfl
            refine done_ (done_of HT_.out (by kernel_rfl)) ?_
            try go_wp2
            go_roundg k1
            case measure => have := HK1.out; omega
            case rel => exact ⟨(wrap64 (t207 + (wrap64 (x39_1 * t209)))), (wrap64 (x39_1 + 1)), D2_, (by first | rfl | (simp; done) | (simp [*]; done)), (by first | rfl | (simp; done) | (simp [*]; done)), H', ⟨by have := HK1.out; omega⟩, ⟨by (with_reducible repeat first | refine bkN ?_ _ | refine bkd ?_ | refine bka ?_ _); exact BK199.out⟩, ⟨by (with_reducible repeat first | refine bkN ?_ _ | refine bkd ?_ | refine bka ?_ _); exact BK200.out⟩, ⟨by repeat (with_reducible first | exact HB.out | apply bal | apply pbN | apply bdw | refine bst ?_ GE199.out | refine bst ?_ GE200.out | refine bst ?_ GE206.out)⟩, ⟨(by repeat (with_reducible first | exact HM.out | apply mal | apply mdN | apply mdw | apply mst (hne := NM199.out) | apply mst (hne := NM200.out) | apply mst (hne := NM206.out)))⟩, ⟨by first | exact HWF.out | exact wrap64_wf _⟩, ⟨HX2.out.2⟩⟩
           ·as_aux_lemma =>
            rw [if_neg c30] at H
            have c30b0 : decide (x7_1 < 0) = false := decide_eq_false c30
            clear c30
            by_cases c43 : (wrap64 (t207 + (wrap64 (x39_1 * t209)))) < x7_1
            ·as_aux_lemma =>
             rw [if_pos c43] at H
             have c43b0 : decide ((wrap64 (t207 + (wrap64 (x39_1 * t209)))) < x7_1) = true := decide_eq_true c43
             clear c43
             have H' := As0.mk H
             clear H
             have hnb44 := NB199_200.out
             have hnc44 := NB200_199.out
             have hcz45_0 : wr.cell? ⟨gb199, 0, none⟩ = some (.slice (some ad201) l0_0.length c0_0) := (bkc BK199.out 0).trans rfl
             have hcz45_1 : wr.cell? ⟨gb199, 1, none⟩ = some (.func (.func 29) #[] #[]) := (bkc BK199.out 1).trans rfl
             have hcz45_2 : wr.cell? ⟨gb199, 2, none⟩ = some (.int .i64 a0_2) := (bkc BK199.out 2).trans rfl
             have hcz45_3 : wr.cell? ⟨gb199, 3, none⟩ = some (.map none) := (bkc BK199.out 3).trans rfl
             have hcz45_4 : wr.cell? ⟨gb199, 4, none⟩ = some (.map (some B)) := (bkc BK199.out 4).trans rfl
             have hfz45_0 := bkf BK199.out 0
             have hfz45_1 := bkf BK199.out 1
             have hfz45_2 := bkf BK199.out 2
             have hfz45_3 := bkf BK199.out 3
             have hfz45_4 := bkf BK199.out 4
             have hcz46_0 : wr.cell? ⟨gb200, 0, none⟩ = some (.int .i64 a1_0) := (bkc BK200.out 0).trans rfl
             have hcz46_1 : wr.cell? ⟨gb200, 1, none⟩ = some (.int .i64 a1_1) := (bkc BK200.out 1).trans rfl
             have hcz46_2 : wr.cell? ⟨gb200, 2, none⟩ = some (.int .i64 a1_2) := (bkc BK200.out 2).trans rfl
             have hfz46_0 := bkf BK200.out 0
             have hfz46_1 := bkf BK200.out 1
             have hfz46_2 := bkf BK200.out 2
             try go_wp2_with (first | ((with_reducible refine gce (f := 39) rfl ?_); refine goesL_ (some 46) rfl rfl Try.func39 (by kernel_rfl) rfl #[.agg #[.slice (some ad201) l0_0.length c0_0, .func (.func 29) #[] #[], .int .i64 a0_2, .map none, .map (some B)], .agg #[.int .i64 a1_0, .int .i64 a1_1, .int .i64 a1_2], .int .i64 x39_1] rfl (by (try simp only [List.map_toArray, List.map_cons, List.map_nil]); first | done | rfl | (simp only [List.length_drop, List.length_take]; rfl)) ?_; (with_reducible refine (impl_mixes_after.calls _ _ l0_0 a0_2 (some B) a1_0 a1_1 a1_2 x39_1 t202 t203 t204 true _ ?side1 ?side2 A23.out).mono ?_); (case side1 => repeat (first | exact (Kd.C_below HR0_0.out HB.out) | (with_reducible refine Kd.C_alloc ?_ _) | (with_reducible refine Kd.C_drewN ?_ _) | (with_reducible refine Kd.C_drew ?_))); (case side2 => exact HC0_0.out); rintro e w47 ⟨rfl, hb⟩; refine ⟨_, rfl, ?_⟩; have HM_ := As0.mk (memo_below (by repeat (with_reducible first | exact HM.out | apply mal | apply mdN | apply mdw | apply mst (hne := NM199.out) | apply mst (hne := NM200.out) | apply mst (hne := NM206.out))) hb); clear HM; have HM := HM_; clear HM_; have n0_ := As0.mk (bkb (g := gb199) (o := .cells #[.slice (some ad201) l0_0.length c0_0, .func (.func 29) #[] #[], .int .i64 a0_2, .map none, .map (some B)] 55 (0, 0)) (by (with_reducible repeat first | refine bkN ?_ _ | refine bkd ?_ | refine bka ?_ _); exact BK199.out) hb); have n1_ := As0.mk (bkb (g := gb200) (by (with_reducible repeat first | refine bkN ?_ _ | refine bkd ?_ | refine bka ?_ _); exact BK200.out) hb); have n2_ := As0.mk (bsp (by repeat (with_reducible first | exact HB.out | apply bal | apply pbN | apply bdw | refine bst ?_ GE199.out | refine bst ?_ GE200.out)) hb); clear BK199; clear BK200; clear HB; have BK199 := n0_; have BK200 := n1_; have HB := n2_; clear n0_ n1_ n2_; (try clear hb); (try clear hb2); (try clear hk); (try clear hi)) | ((with_reducible refine gate_dst (N := 9) rfl ?_); refine box_event ?hg (N := 9) ?hd (cs := #[.int .i64 0, .int .i64 0, .int .i64 0]) (t := 63) ?hr ?_; (case hd => rfl); (case hg => rfl); (case hr => first | (go_simp; done) | (go_simp; rfl)); intro gb206 hg w48 hbox hb; have NM206 := As0.mk (memo_new (by repeat (with_reducible first | exact HM.out | apply mal | apply mdN | apply mdw | apply mst (hne := NM199.out) | apply mst (hne := NM200.out) | apply mst (hne := NM206.out))) hg); have HM_ := As0.mk (memo_below (by repeat (with_reducible first | exact HM.out | apply mal | apply mdN | apply mdw | apply mst (hne := NM199.out) | apply mst (hne := NM200.out) | apply mst (hne := NM206.out))) hb); clear HM; have HM := HM_; clear HM_; have n0_ := As0.mk (bkb (g := gb199) (o := .cells #[.slice (some ad201) l0_0.length c0_0, .func (.func 29) #[] #[], .int .i64 a0_2, .map none, .map (some B)] 55 (0, 0)) (by (with_reducible repeat first | refine bkN ?_ _ | refine bkd ?_ | refine bka ?_ _); exact BK199.out) hb); have n1_ := As0.mk (bkb (g := gb200) (by (with_reducible repeat first | refine bkN ?_ _ | refine bkd ?_ | refine bka ?_ _); exact BK200.out) hb); have n2_ := As0.mk (bsp (by repeat (with_reducible first | exact HB.out | apply bal | apply pbN | apply bdw | refine bst ?_ GE199.out | refine bst ?_ GE200.out)) hb); have n3_ := As0.mk (hbox); have n4_ := As0.mk ((by rw [hg]; exact (bsz (by repeat (with_reducible first | exact HB.out | apply bal | apply pbN | apply bdw | refine bst ?_ GE199.out | refine bst ?_ GE200.out))) : w0.heap.size ≤ gb206)); have n5_ := As0.mk ((by rw [hg]; exact (bsz (by repeat (with_reducible first | exact HB.out | apply bal | apply pbN | apply bdw | refine bst ?_ GE199.out | refine bst ?_ GE200.out))) : w0.heap.size ≤ gb206)); have n6_ := As0.mk ((by rw [hg]; exact Nat.ne_of_lt (blk_lt (g := gb199) (o := .cells #[.slice (some ad201) l0_0.length c0_0, .func (.func 29) #[] #[], .int .i64 a0_2, .map none, .map (some B)] 55 (0, 0)) (by (with_reducible repeat first | refine bkN ?_ _ | refine bkd ?_ | refine bka ?_ _); exact BK199.out)) : gb199 ≠ gb206)); have n7_ := As0.mk ((by rw [hg]; exact Nat.ne_of_gt (blk_lt (g := gb199) (o := .cells #[.slice (some ad201) l0_0.length c0_0, .func (.func 29) #[] #[], .int .i64 a0_2, .map none, .map (some B)] 55 (0, 0)) (by (with_reducible repeat first | refine bkN ?_ _ | refine bkd ?_ | refine bka ?_ _); exact BK199.out)) : gb206 ≠ gb199)); have n8_ := As0.mk ((by rw [hg]; exact Nat.ne_of_lt (blk_lt (g := gb200) (o := .cells #[.int .i64 a1_0, .int .i64 a1_1, .int .i64 a1_2] 63 (0, 0)) (by (with_reducible repeat first | refine bkN ?_ _ | refine bkd ?_ | refine bka ?_ _); exact BK200.out)) : gb200 ≠ gb206)); have n9_ := As0.mk ((by rw [hg]; exact Nat.ne_of_gt (blk_lt (g := gb200) (o := .cells #[.int .i64 a1_0, .int .i64 a1_1, .int .i64 a1_2] 63 (0, 0)) (by (with_reducible repeat first | refine bkN ?_ _ | refine bkd ?_ | refine bka ?_ _); exact BK200.out)) : gb206 ≠ gb200)); clear BK199; clear BK200; clear HB; have BK199 := n0_; have BK200 := n1_; have HB := n2_; have BK206 := n3_; have GW206 := n4_; have GE206 := n5_; have NB199_206 := n6_; have NB206_199 := n7_; have NB200_206 := n8_; have NB206_200 := n9_; clear n0_ n1_ n2_ n3_ n4_ n5_ n6_ n7_ n8_ n9_; clear hb hbox hg; have hnb49 := NB206_199.out; have hnc49 := NB199_206.out; have hnb50 := NB206_200.out; have hnc50 := NB200_206.out; have hcz51_0 : w48.cell? ⟨gb206, 0, none⟩ = some (.int .i64 0) := (bkc BK206.out 0).trans rfl; have hcz51_1 : w48.cell? ⟨gb206, 1, none⟩ = some (.int .i64 0) := (bkc BK206.out 1).trans rfl; have hcz51_2 : w48.cell? ⟨gb206, 2, none⟩ = some (.int .i64 0) := (bkc BK206.out 2).trans rfl; have hfz51_0 := bkf BK206.out 0; have hfz51_1 := bkf BK206.out 1; have hfz51_2 := bkf BK206.out 2; have hcz52_0 : w48.cell? ⟨gb199, 0, none⟩ = some (.slice (some ad201) l0_0.length c0_0) := (bkc BK199.out 0).trans rfl; have hcz52_1 : w48.cell? ⟨gb199, 1, none⟩ = some (.func (.func 29) #[] #[]) := (bkc BK199.out 1).trans rfl; have hcz52_2 : w48.cell? ⟨gb199, 2, none⟩ = some (.int .i64 a0_2) := (bkc BK199.out 2).trans rfl; have hcz52_3 : w48.cell? ⟨gb199, 3, none⟩ = some (.map none) := (bkc BK199.out 3).trans rfl; have hcz52_4 : w48.cell? ⟨gb199, 4, none⟩ = some (.map (some B)) := (bkc BK199.out 4).trans rfl; have hfz52_0 := bkf BK199.out 0; have hfz52_1 := bkf BK199.out 1; have hfz52_2 := bkf BK199.out 2; have hfz52_3 := bkf BK199.out 3; have hfz52_4 := bkf BK199.out 4) | ((with_reducible refine gce (f := 38) rfl ?_); refine goesL_ (some 53) rfl rfl Try.func38 (by kernel_rfl) rfl #[.agg #[.slice (some ad201) l0_0.length c0_0, .func (.func 29) #[] #[], .int .i64 a0_2, .map none, .map (some B)], .agg #[.int .i64 t202, .int .i64 t203, .int .i64 t204]] rfl (by (try simp only [List.map_toArray, List.map_cons, List.map_nil]); first | done | rfl | (simp only [List.length_drop, List.length_take]; rfl)) ?_; (with_reducible refine (ih k1 (by have := HK1.out; omega) _ _ l0_0 a0_2 B t202 t203 t204 t207 _ w0 _ HV.out (after_box HV.out HBX.out HX2.out.1 A23.out) HB0.out (by repeat (with_reducible first | exact HB.out | apply bal | apply pbN | apply bdw | refine bst ?_ GE199.out | refine bst ?_ GE200.out | refine bst ?_ GE206.out)) (memo_self (by repeat (with_reducible first | exact HM.out | apply mal | apply mdN | apply mdw | apply mst (hne := NM199.out) | apply mst (hne := NM200.out) | apply mst (hne := NM206.out)))) ?side1 ?side2 A25.out).mono ?_); (case side1 => exact HR0_0.out); (case side2 => exact HC0_0.out); rintro e w53 ⟨rfl, hb, D2_, hM⟩; refine ⟨_, rfl, ?_⟩; have HM_ := As0.mk (memo_trans (by repeat (with_reducible first | exact HM.out | apply mal | apply mdN | apply mdw | apply mst (hne := NM199.out) | apply mst (hne := NM200.out) | apply mst (hne := NM206.out))) hM); clear HM; have HM := HM_; clear HM_; have n0_ := As0.mk (memo_blk (g := gb199) (o := .cells #[.slice (some ad201) l0_0.length c0_0, .func (.func 29) #[] #[], .int .i64 a0_2, .map none, .map (some B)] 55 (0, 0)) hM (by (with_reducible repeat first | refine bkN ?_ _ | refine bkd ?_ | refine bka ?_ _); refine blk_far ?_ NB199_206.out _; (with_reducible repeat first | refine bkN ?_ _ | refine bkd ?_ | refine bka ?_ _); refine blk_far ?_ NB199_206.out _; (with_reducible repeat first | refine bkN ?_ _ | refine bkd ?_ | refine bka ?_ _); refine blk_far ?_ NB199_206.out _; (with_reducible repeat first | refine bkN ?_ _ | refine bkd ?_ | refine bka ?_ _); exact BK199.out) NM199.out.1); have n1_ := As0.mk (memo_blk (g := gb200) (o := .cells #[.int .i64 a1_0, .int .i64 a1_1, .int .i64 a1_2] 63 (0, 0)) hM (by (with_reducible repeat first | refine bkN ?_ _ | refine bkd ?_ | refine bka ?_ _); refine blk_far ?_ NB200_206.out _; (with_reducible repeat first | refine bkN ?_ _ | refine bkd ?_ | refine bka ?_ _); refine blk_far ?_ NB200_206.out _; (with_reducible repeat first | refine bkN ?_ _ | refine bkd ?_ | refine bka ?_ _); refine blk_far ?_ NB200_206.out _; (with_reducible repeat first | refine bkN ?_ _ | refine bkd ?_ | refine bka ?_ _); exact BK200.out) NM200.out.1); have n2_ := As0.mk (memo_blk (g := gb206) (o := .cells #[.int .i64 t202, .int .i64 t203, .int .i64 t204] 63 (0, 0)) hM (by (with_reducible repeat first | refine bkN ?_ _ | refine bkd ?_ | refine bka ?_ _); refine blk_put (cs := #[.int .i64 t202, .int .i64 t203, .int .i64 0]) ?_ 2 _ rfl; (with_reducible repeat first | refine bkN ?_ _ | refine bkd ?_ | refine bka ?_ _); refine blk_put (cs := #[.int .i64 t202, .int .i64 0, .int .i64 0]) ?_ 1 _ rfl; (with_reducible repeat first | refine bkN ?_ _ | refine bkd ?_ | refine bka ?_ _); refine blk_put (cs := #[.int .i64 0, .int .i64 0, .int .i64 0]) ?_ 0 _ rfl; (with_reducible repeat first | refine bkN ?_ _ | refine bkd ?_ | refine bka ?_ _); exact BK206.out) NM206.out.1); have n3_ := As0.mk (hb); clear BK199; clear BK200; clear BK206; clear HB; have BK199 := n0_; have BK200 := n1_; have BK206 := n2_; have HB := n3_; clear n0_ n1_ n2_ n3_; (try clear hM); (try clear hb); (try clear hb2); (try clear hk); (try clear hi)))
             have n0_ := As0.mk (bkd BK199.out)
             have n1_ := As0.mk (bkd BK200.out)
             have n2_ := As0.mk (bkd BK206.out)
             have n3_ := As0.mk (bdw HB.out)
             replace HM := As0.mk (mdw HM.out)
             clear BK199
             clear BK200
             clear BK206
             clear HB
             have BK199 := n0_
             have BK200 := n1_
             have BK206 := n2_
             have HB := n3_
             clear n0_ n1_ n2_ n3_
             have p208 : 0 ≤ (a1_0 : Int) := of_decide_eq_true (by assumption)
             have q208 : a1_0 < (l0_0.length : Int) := of_decide_eq_true (by assumption)
             obtain ⟨ad208, e208, hx208_0, hx208_1, hx208_2, hx208_3⟩ := at_T46 HR0_0.out a1_0 p208 q208
             have hw208_3 := hx208_3
             have hw208_2 := hx208_2
             have hw208_1 := hx208_1
             have hw208_0 := hx208_0
             obtain rfl : ad201 = ad208 := (by injection e208)
             replace hx208_0 := (HB.out.cell (World.block_lt_of_cell? w0 _ hx208_0)).trans hx208_0
             replace hx208_1 := (HB.out.cell (World.block_lt_of_cell? w0 _ hx208_1)).trans hx208_1
             replace hx208_2 := (HB.out.cell (World.block_lt_of_cell? w0 _ hx208_2)).trans hx208_2
             replace hx208_3 := (HB.out.cell (World.block_lt_of_cell? w0 _ hx208_3)).trans hx208_3
             replace p208 := eq_true p208
             replace q208 := eq_true q208
             refine start_ (n := 14) (S := fun w' => w'.cell? ⟨gb199, 0, none⟩ = some (.slice (some ad201) l0_0.length c0_0) ∧ w'.cell? ⟨gb199, 1, none⟩ = some (.func (.func 29) #[] #[]) ∧ w'.cell? ⟨gb199, 2, none⟩ = some (.int .i64 a0_2) ∧ w'.cell? ⟨gb199, 3, none⟩ = some (.map none) ∧ w'.cell? ⟨gb199, 4, none⟩ = some (.map (some B)) ∧ w'.cell? ⟨gb200, 0, none⟩ = some (.int .i64 a1_0) ∧ w'.cell? ⟨gb200, 1, none⟩ = some (.int .i64 a1_1) ∧ w'.cell? ⟨gb200, 2, none⟩ = some (.int .i64 a1_2) ∧ w'.cell? (ad201.add ((a1_0).toNat * 4)) = some (.string ((rd_T46 l0_0 a1_0).f0)) ∧ w'.cell? ⟨(ad201.add ((a1_0).toNat * 4)).block, (ad201.add ((a1_0).toNat * 4)).off + 1, none⟩ = some (.int .i64 ((rd_T46 l0_0 a1_0).f1)) ∧ w'.cell? ⟨(ad201.add ((a1_0).toNat * 4)).block, (ad201.add ((a1_0).toNat * 4)).off + 2, none⟩ = some (.int .i64 ((rd_T46 l0_0 a1_0).f2)) ∧ w'.cell? ⟨(ad201.add ((a1_0).toNat * 4)).block, (ad201.add ((a1_0).toNat * 4)).off + 3, none⟩ = some (.int .i64 ((rd_T46 l0_0 a1_0).f3))) (ds := []) #[false, false, false, false, false, false, false, false, false, false, false, false, false, false] (by kernel_rfl) rfl rfl ⟨(bkc BK199.out 0).trans rfl, (bkc BK199.out 1).trans rfl, (bkc BK199.out 2).trans rfl, (bkc BK199.out 3).trans rfl, (bkc BK199.out 4).trans rfl, (bkc BK200.out 0).trans rfl, (bkc BK200.out 1).trans rfl, (bkc BK200.out 2).trans rfl, ((HB.out.cell (World.block_lt_of_cell? w0 _ hw208_0)).trans hw208_0), ((HB.out.cell (World.block_lt_of_cell? w0 _ hw208_1)).trans hw208_1), ((HB.out.cell (World.block_lt_of_cell? w0 _ hw208_2)).trans hw208_2), ((HB.out.cell (World.block_lt_of_cell? w0 _ hw208_3)).trans hw208_3)⟩ (fun hHeld => ?_); refine with_tabW impl_mixes_least.tab15 impl_mixes_least.bits15 (fun HT_ HW_ => ?_)
             generalize w53.drew = w54 at HM BK199 BK200 BK206 HB hx208_0 hx208_1 hx208_2 hx208_3 hHeld ⊢
             refine pure_ (i := 0) (N := some 54) (v := ?_) (a' := ?_) #[true, false, false, false, false, false, false, false, false, false, false, false, false, false] rfl rfl (any_of HT_.out (by kernel_rfl)) (fun _ _ _ h => h) (Or.inl ⟨by rfl, ?_⟩) ?_ ?_
             rotate_left
             ·intro w'
              go_simp
              with_reducible rfl
             rotate_left
             ·simp only [Act.put, sla, slz, sls, i64_w, i32_w]
              rfl
             refine pure_ (i := 1) (N := some 55) (v := ?_) (a' := ?_) #[true, true, false, false, false, false, false, false, false, false, false, false, false, false] rfl rfl (any_of HT_.out (by kernel_rfl)) (fun _ _ _ h => h) (Or.inl ⟨by rfl, ?_⟩) ?_ ?_
             rotate_left
             ·intro w'
              go_simp
              with_reducible rfl
             rotate_left
             ·simp only [Act.put, sla, slz, sls, i64_w, i32_w]
              rfl
             refine pure_ (i := 2) (N := some 56) (v := ?_) (a' := ?_) #[true, true, true, false, false, false, false, false, false, false, false, false, false, false] rfl rfl (any_of HT_.out (by kernel_rfl)) (fun _ _ _ h => h) (Or.inl ⟨by rfl, ?_⟩) ?_ ?_
             rotate_left
             ·intro w'
              go_simp
              with_reducible rfl
             rotate_left
             ·simp only [Act.put, sla, slz, sls, i64_w, i32_w]
              rfl
             refine pure_ (i := 4) (N := some 58) (v := ?_) (a' := ?_) #[true, true, true, false, true, false, false, false, false, false, false, false, false, false] rfl rfl (any_of HT_.out (by kernel_rfl)) (fun _ _ _ h => h) (Or.inl ⟨by rfl, ?_⟩) ?_ ?_
             rotate_left
             ·intro w'
              go_simp
              with_reducible rfl
             rotate_left
             ·simp only [Act.put, sla, slz, sls, i64_w, i32_w]
              rfl
             refine pure_ (i := 6) (N := some 60) (v := ?_) (a' := ?_) #[true, true, true, false, true, false, true, false, false, false, false, false, false, false] rfl rfl (any_of HT_.out (by kernel_rfl)) (fun _ _ _ h => h) (Or.inl ⟨by rfl, ?_⟩) ?_ ?_
             rotate_left
             ·intro w'
              go_simp
              with_reducible rfl
             rotate_left
             ·simp only [Act.put, sla, slz, sls, i64_w, i32_w]
              rfl
             refine take_ (i := 3) (N := some 57) (v := ?_) (a' := ?_) #[true, true, true, true, true, false, true, false, false, false, false, false, false, false] rfl rfl (take_ofW HT_.out HW_.out (by kernel_rfl)) (fun _ _ _ h => h) (Or.inl ⟨by rfl, ?_⟩) hHeld ?_ ?_
             rotate_left
             ·rintro w' ⟨s0, s1, s2, s3, s4, s5, s6, s7, s8, s9, s10, s11⟩
              go_simp
              with_reducible rfl
             rotate_left
             ·simp only [Act.put, sla, slz, sls, i64_w, i32_w]
              rfl
             refine take_ (i := 5) (N := some 59) (v := ?_) (a' := ?_) #[true, true, true, true, true, true, true, false, false, false, false, false, false, false] rfl rfl (take_ofW HT_.out HW_.out (by kernel_rfl)) (fun _ _ _ h => h) (Or.inl ⟨by rfl, ?_⟩) hHeld ?_ ?_
             rotate_left
             ·rintro w' ⟨s0, s1, s2, s3, s4, s5, s6, s7, s8, s9, s10, s11⟩
              go_simp
              with_reducible rfl
             rotate_left
             ·simp only [Act.put, sla, slz, sls, i64_w, i32_w]
              rfl
             refine take_ (i := 7) (N := some 61) (v := ?_) (a' := ?_) #[true, true, true, true, true, true, true, true, false, false, false, false, false, false] rfl rfl (take_ofW HT_.out HW_.out (by kernel_rfl)) (fun _ _ _ h => h) (Or.inl ⟨by rfl, ?_⟩) hHeld ?_ ?_
             rotate_left
             ·rintro w' ⟨s0, s1, s2, s3, s4, s5, s6, s7, s8, s9, s10, s11⟩
              go_simp
              with_reducible rfl
             rotate_left
             ·simp only [Act.put, sla, slz, sls, i64_w, i32_w]
              rfl
             refine pure_ (i := 8) (N := some 62) (v := ?_) (a' := ?_) #[true, true, true, true, true, true, true, true, true, false, false, false, false, false] rfl rfl (any_of HT_.out (by kernel_rfl)) (fun _ _ _ h => h) (Or.inl ⟨by rfl, ?_⟩) ?_ ?_
             rotate_left
             ·intro w'
              go_simp
              with_reducible rfl
             rotate_left
             ·simp only [Act.put, sla, slz, sls, i64_w, i32_w]
              rfl
             refine take_ (i := 9) (N := some 63) (v := ?_) (a' := ?_) #[true, true, true, true, true, true, true, true, true, true, false, false, false, false] rfl rfl (take_ofW HT_.out HW_.out (by kernel_rfl)) (fun _ _ _ h => h) (Or.inl ⟨by rfl, ?_⟩) hHeld ?_ ?_
             rotate_left
             ·rintro w' ⟨s0, s1, s2, s3, s4, s5, s6, s7, s8, s9, s10, s11⟩
              go_simp
              with_reducible rfl
             rotate_left
             ·simp only [Act.put, sla, slz, sls, i64_w, i32_w]
              rfl
             refine one_ (i := 10) (N := some 64) #[true, true, true, true, true, true, true, true, true, true, true, false, false, false] rfl rfl (one_of HT_.out (by kernel_rfl)) (by decide) (fun K hK => ?_)
             refine goesV_ Try.func29 (by kernel_rfl) rfl #[.agg #[.string ((rd_T46 l0_0 a1_0).f0), .int .i64 ((rd_T46 l0_0 a1_0).f1), .int .i64 ((rd_T46 l0_0 a1_0).f2), .int .i64 ((rd_T46 l0_0 a1_0).f3)]] (by rfl) rfl rfl (by rfl) (by (try simp only [List.map_toArray, List.map_cons, List.map_nil]); first | done | rfl | (simp only [List.length_drop, List.length_take]; rfl)) ?_
             with_reducible refine (impl_price.calls ((rd_T46 l0_0 a1_0).f0) ((rd_T46 l0_0 a1_0).f1) ((rd_T46 l0_0 a1_0).f2) ((rd_T46 l0_0 a1_0).f3) t209 _ A28.out).mono ?_
             rintro e w55 ⟨rfl, hb⟩
             refine ⟨_, rfl, ?_⟩
             have HM_ := As0.mk (memo_below (by repeat (with_reducible first | exact HM.out | apply mal | apply mdN | apply mdw | apply mst (hne := NM199.out) | apply mst (hne := NM200.out) | apply mst (hne := NM206.out))) hb); clear HM; have HM := HM_; clear HM_
             have n0_ := As0.mk (bkb (g := gb199) (o := .cells #[.slice (some ad201) l0_0.length c0_0, .func (.func 29) #[] #[], .int .i64 a0_2, .map none, .map (some B)] 55 (0, 0)) (by (with_reducible repeat first | refine bkN ?_ _ | refine bkd ?_ | refine bka ?_ _); exact BK199.out) hb)
             have n1_ := As0.mk (bkb (g := gb200) (by (with_reducible repeat first | refine bkN ?_ _ | refine bkd ?_ | refine bka ?_ _); exact BK200.out) hb)
             have n2_ := As0.mk (bkb (g := gb206) (by (with_reducible repeat first | refine bkN ?_ _ | refine bkd ?_ | refine bka ?_ _); exact BK206.out) hb)
             have n3_ := As0.mk (bsp (by repeat (with_reducible first | exact HB.out | apply bal | apply pbN | apply bdw | refine bst ?_ GE199.out | refine bst ?_ GE200.out | refine bst ?_ GE206.out)) hb)
             clear BK199
             clear BK200
             clear BK206
             clear HB
             have BK199 := n0_
             have BK200 := n1_
             have BK206 := n2_
             have HB := n3_
             clear n0_ n1_ n2_ n3_
             (try clear hb)
             (try clear hb2)
             (try clear hk)
             (try clear hi)
             refine hK.out _ _ ⟨(bkc BK199.out 0).trans rfl, (bkc BK199.out 1).trans rfl, (bkc BK199.out 2).trans rfl, (bkc BK199.out 3).trans rfl, (bkc BK199.out 4).trans rfl, (bkc BK200.out 0).trans rfl, (bkc BK200.out 1).trans rfl, (bkc BK200.out 2).trans rfl, ((HB.out.cell (World.block_lt_of_cell? w0 _ hw208_0)).trans hw208_0), ((HB.out.cell (World.block_lt_of_cell? w0 _ hw208_1)).trans hw208_1), ((HB.out.cell (World.block_lt_of_cell? w0 _ hw208_2)).trans hw208_2), ((HB.out.cell (World.block_lt_of_cell? w0 _ hw208_3)).trans hw208_3)⟩ (fun hHeld => ?_)
             clear hK K
             refine norm_ (a' := ?_) ?_ ?_
             rotate_left
             ·show Act.put _ (some 64) _ = _
              simp only [Act.put, sla, slz, sls, i64_w, i32_w]
              rfl
             refine pure_ (i := 11) (N := some 65) (v := ?_) (a' := ?_) #[true, true, true, true, true, true, true, true, true, true, true, true, false, false] rfl rfl (any_of HT_.out (by kernel_rfl)) (fun _ _ _ h => h) (Or.inl ⟨by rfl, ?_⟩) ?_ ?_
             rotate_left
             ·intro w'
              go_simp
              with_reducible rfl
             rotate_left
             ·simp only [Act.put, sla, slz, sls, i64_w, i32_w]
              rfl
             refine pure_ (i := 12) (N := some 66) (v := ?_) (a' := ?_) #[true, true, true, true, true, true, true, true, true, true, true, true, true, false] rfl rfl (any_of HT_.out (by kernel_rfl)) (fun _ _ _ h => h) (Or.inl ⟨by rfl, ?_⟩) ?_ ?_
             rotate_left
             ·intro w'
              go_simp
              with_reducible rfl
             rotate_left
             ·simp only [Act.put, sla, slz, sls, i64_w, i32_w]
              rfl
             refine pure_ (i := 13) (N := some 12) (v := ?_) (a' := ?_) #[true, true, true, true, true, true, true, true, true, true, true, true, true, true] rfl rfl (any_of HT_.out (by kernel_rfl)) (fun _ _ _ h => h) (Or.inl ⟨by rfl, ?_⟩) ?_ ?_
             rotate_left
             ·intro w'
              go_simp
              with_reducible rfl
             rotate_left
             ·simp only [Act.put, sla, slz, sls, i64_w, i32_w]
              rfl
             refine done_ (done_of HT_.out (by kernel_rfl)) ?_
             try go_wp2
             go_roundg k1
             case measure => have := HK1.out; omega
             case rel => exact ⟨(wrap64 (t207 + (wrap64 (x39_1 * t209)))), (wrap64 (x39_1 + 1)), D2_, (by first | rfl | (simp; done) | (simp [*]; done)), (by first | rfl | (simp; done) | (simp [*]; done)), H', ⟨by have := HK1.out; omega⟩, ⟨by (with_reducible repeat first | refine bkN ?_ _ | refine bkd ?_ | refine bka ?_ _); exact BK199.out⟩, ⟨by (with_reducible repeat first | refine bkN ?_ _ | refine bkd ?_ | refine bka ?_ _); exact BK200.out⟩, ⟨by repeat (with_reducible first | exact HB.out | apply bal | apply pbN | apply bdw | refine bst ?_ GE199.out | refine bst ?_ GE200.out | refine bst ?_ GE206.out)⟩, ⟨(by repeat (with_reducible first | exact HM.out | apply mal | apply mdN | apply mdw | apply mst (hne := NM199.out) | apply mst (hne := NM200.out) | apply mst (hne := NM206.out)))⟩, ⟨by first | exact HWF.out | exact wrap64_wf _⟩, ⟨HX2.out.2⟩⟩
            ·as_aux_lemma =>
             rw [if_neg c43] at H
             have c43b0 : decide ((wrap64 (t207 + (wrap64 (x39_1 * t209)))) < x7_1) = false := decide_eq_false c43
             clear c43
             have H' := As0.mk H
             clear H
             have hnb56 := NB199_200.out
             have hnc56 := NB200_199.out
             have hcz57_0 : wr.cell? ⟨gb199, 0, none⟩ = some (.slice (some ad201) l0_0.length c0_0) := (bkc BK199.out 0).trans rfl
             have hcz57_1 : wr.cell? ⟨gb199, 1, none⟩ = some (.func (.func 29) #[] #[]) := (bkc BK199.out 1).trans rfl
             have hcz57_2 : wr.cell? ⟨gb199, 2, none⟩ = some (.int .i64 a0_2) := (bkc BK199.out 2).trans rfl
             have hcz57_3 : wr.cell? ⟨gb199, 3, none⟩ = some (.map none) := (bkc BK199.out 3).trans rfl
             have hcz57_4 : wr.cell? ⟨gb199, 4, none⟩ = some (.map (some B)) := (bkc BK199.out 4).trans rfl
             have hfz57_0 := bkf BK199.out 0
             have hfz57_1 := bkf BK199.out 1
             have hfz57_2 := bkf BK199.out 2
             have hfz57_3 := bkf BK199.out 3
             have hfz57_4 := bkf BK199.out 4
             have hcz58_0 : wr.cell? ⟨gb200, 0, none⟩ = some (.int .i64 a1_0) := (bkc BK200.out 0).trans rfl
             have hcz58_1 : wr.cell? ⟨gb200, 1, none⟩ = some (.int .i64 a1_1) := (bkc BK200.out 1).trans rfl
             have hcz58_2 : wr.cell? ⟨gb200, 2, none⟩ = some (.int .i64 a1_2) := (bkc BK200.out 2).trans rfl
             have hfz58_0 := bkf BK200.out 0
             have hfz58_1 := bkf BK200.out 1
             have hfz58_2 := bkf BK200.out 2
             try go_wp2_with (first | ((with_reducible refine gce (f := 39) rfl ?_); refine goesL_ (some 46) rfl rfl Try.func39 (by kernel_rfl) rfl #[.agg #[.slice (some ad201) l0_0.length c0_0, .func (.func 29) #[] #[], .int .i64 a0_2, .map none, .map (some B)], .agg #[.int .i64 a1_0, .int .i64 a1_1, .int .i64 a1_2], .int .i64 x39_1] rfl (by (try simp only [List.map_toArray, List.map_cons, List.map_nil]); first | done | rfl | (simp only [List.length_drop, List.length_take]; rfl)) ?_; (with_reducible refine (impl_mixes_after.calls _ _ l0_0 a0_2 (some B) a1_0 a1_1 a1_2 x39_1 t202 t203 t204 true _ ?side1 ?side2 A23.out).mono ?_); (case side1 => repeat (first | exact (Kd.C_below HR0_0.out HB.out) | (with_reducible refine Kd.C_alloc ?_ _) | (with_reducible refine Kd.C_drewN ?_ _) | (with_reducible refine Kd.C_drew ?_))); (case side2 => exact HC0_0.out); rintro e w59 ⟨rfl, hb⟩; refine ⟨_, rfl, ?_⟩; have HM_ := As0.mk (memo_below (by repeat (with_reducible first | exact HM.out | apply mal | apply mdN | apply mdw | apply mst (hne := NM199.out) | apply mst (hne := NM200.out) | apply mst (hne := NM206.out))) hb); clear HM; have HM := HM_; clear HM_; have n0_ := As0.mk (bkb (g := gb199) (o := .cells #[.slice (some ad201) l0_0.length c0_0, .func (.func 29) #[] #[], .int .i64 a0_2, .map none, .map (some B)] 55 (0, 0)) (by (with_reducible repeat first | refine bkN ?_ _ | refine bkd ?_ | refine bka ?_ _); exact BK199.out) hb); have n1_ := As0.mk (bkb (g := gb200) (by (with_reducible repeat first | refine bkN ?_ _ | refine bkd ?_ | refine bka ?_ _); exact BK200.out) hb); have n2_ := As0.mk (bsp (by repeat (with_reducible first | exact HB.out | apply bal | apply pbN | apply bdw | refine bst ?_ GE199.out | refine bst ?_ GE200.out)) hb); clear BK199; clear BK200; clear HB; have BK199 := n0_; have BK200 := n1_; have HB := n2_; clear n0_ n1_ n2_; (try clear hb); (try clear hb2); (try clear hk); (try clear hi)) | ((with_reducible refine gate_dst (N := 9) rfl ?_); refine box_event ?hg (N := 9) ?hd (cs := #[.int .i64 0, .int .i64 0, .int .i64 0]) (t := 63) ?hr ?_; (case hd => rfl); (case hg => rfl); (case hr => first | (go_simp; done) | (go_simp; rfl)); intro gb206 hg w60 hbox hb; have NM206 := As0.mk (memo_new (by repeat (with_reducible first | exact HM.out | apply mal | apply mdN | apply mdw | apply mst (hne := NM199.out) | apply mst (hne := NM200.out) | apply mst (hne := NM206.out))) hg); have HM_ := As0.mk (memo_below (by repeat (with_reducible first | exact HM.out | apply mal | apply mdN | apply mdw | apply mst (hne := NM199.out) | apply mst (hne := NM200.out) | apply mst (hne := NM206.out))) hb); clear HM; have HM := HM_; clear HM_; have n0_ := As0.mk (bkb (g := gb199) (o := .cells #[.slice (some ad201) l0_0.length c0_0, .func (.func 29) #[] #[], .int .i64 a0_2, .map none, .map (some B)] 55 (0, 0)) (by (with_reducible repeat first | refine bkN ?_ _ | refine bkd ?_ | refine bka ?_ _); exact BK199.out) hb); have n1_ := As0.mk (bkb (g := gb200) (by (with_reducible repeat first | refine bkN ?_ _ | refine bkd ?_ | refine bka ?_ _); exact BK200.out) hb); have n2_ := As0.mk (bsp (by repeat (with_reducible first | exact HB.out | apply bal | apply pbN | apply bdw | refine bst ?_ GE199.out | refine bst ?_ GE200.out)) hb); have n3_ := As0.mk (hbox); have n4_ := As0.mk ((by rw [hg]; exact (bsz (by repeat (with_reducible first | exact HB.out | apply bal | apply pbN | apply bdw | refine bst ?_ GE199.out | refine bst ?_ GE200.out))) : w0.heap.size ≤ gb206)); have n5_ := As0.mk ((by rw [hg]; exact (bsz (by repeat (with_reducible first | exact HB.out | apply bal | apply pbN | apply bdw | refine bst ?_ GE199.out | refine bst ?_ GE200.out))) : w0.heap.size ≤ gb206)); have n6_ := As0.mk ((by rw [hg]; exact Nat.ne_of_lt (blk_lt (g := gb199) (o := .cells #[.slice (some ad201) l0_0.length c0_0, .func (.func 29) #[] #[], .int .i64 a0_2, .map none, .map (some B)] 55 (0, 0)) (by (with_reducible repeat first | refine bkN ?_ _ | refine bkd ?_ | refine bka ?_ _); exact BK199.out)) : gb199 ≠ gb206)); have n7_ := As0.mk ((by rw [hg]; exact Nat.ne_of_gt (blk_lt (g := gb199) (o := .cells #[.slice (some ad201) l0_0.length c0_0, .func (.func 29) #[] #[], .int .i64 a0_2, .map none, .map (some B)] 55 (0, 0)) (by (with_reducible repeat first | refine bkN ?_ _ | refine bkd ?_ | refine bka ?_ _); exact BK199.out)) : gb206 ≠ gb199)); have n8_ := As0.mk ((by rw [hg]; exact Nat.ne_of_lt (blk_lt (g := gb200) (o := .cells #[.int .i64 a1_0, .int .i64 a1_1, .int .i64 a1_2] 63 (0, 0)) (by (with_reducible repeat first | refine bkN ?_ _ | refine bkd ?_ | refine bka ?_ _); exact BK200.out)) : gb200 ≠ gb206)); have n9_ := As0.mk ((by rw [hg]; exact Nat.ne_of_gt (blk_lt (g := gb200) (o := .cells #[.int .i64 a1_0, .int .i64 a1_1, .int .i64 a1_2] 63 (0, 0)) (by (with_reducible repeat first | refine bkN ?_ _ | refine bkd ?_ | refine bka ?_ _); exact BK200.out)) : gb206 ≠ gb200)); clear BK199; clear BK200; clear HB; have BK199 := n0_; have BK200 := n1_; have HB := n2_; have BK206 := n3_; have GW206 := n4_; have GE206 := n5_; have NB199_206 := n6_; have NB206_199 := n7_; have NB200_206 := n8_; have NB206_200 := n9_; clear n0_ n1_ n2_ n3_ n4_ n5_ n6_ n7_ n8_ n9_; clear hb hbox hg; have hnb61 := NB206_199.out; have hnc61 := NB199_206.out; have hnb62 := NB206_200.out; have hnc62 := NB200_206.out; have hcz63_0 : w60.cell? ⟨gb206, 0, none⟩ = some (.int .i64 0) := (bkc BK206.out 0).trans rfl; have hcz63_1 : w60.cell? ⟨gb206, 1, none⟩ = some (.int .i64 0) := (bkc BK206.out 1).trans rfl; have hcz63_2 : w60.cell? ⟨gb206, 2, none⟩ = some (.int .i64 0) := (bkc BK206.out 2).trans rfl; have hfz63_0 := bkf BK206.out 0; have hfz63_1 := bkf BK206.out 1; have hfz63_2 := bkf BK206.out 2; have hcz64_0 : w60.cell? ⟨gb199, 0, none⟩ = some (.slice (some ad201) l0_0.length c0_0) := (bkc BK199.out 0).trans rfl; have hcz64_1 : w60.cell? ⟨gb199, 1, none⟩ = some (.func (.func 29) #[] #[]) := (bkc BK199.out 1).trans rfl; have hcz64_2 : w60.cell? ⟨gb199, 2, none⟩ = some (.int .i64 a0_2) := (bkc BK199.out 2).trans rfl; have hcz64_3 : w60.cell? ⟨gb199, 3, none⟩ = some (.map none) := (bkc BK199.out 3).trans rfl; have hcz64_4 : w60.cell? ⟨gb199, 4, none⟩ = some (.map (some B)) := (bkc BK199.out 4).trans rfl; have hfz64_0 := bkf BK199.out 0; have hfz64_1 := bkf BK199.out 1; have hfz64_2 := bkf BK199.out 2; have hfz64_3 := bkf BK199.out 3; have hfz64_4 := bkf BK199.out 4) | ((with_reducible refine gce (f := 38) rfl ?_); refine goesL_ (some 53) rfl rfl Try.func38 (by kernel_rfl) rfl #[.agg #[.slice (some ad201) l0_0.length c0_0, .func (.func 29) #[] #[], .int .i64 a0_2, .map none, .map (some B)], .agg #[.int .i64 t202, .int .i64 t203, .int .i64 t204]] rfl (by (try simp only [List.map_toArray, List.map_cons, List.map_nil]); first | done | rfl | (simp only [List.length_drop, List.length_take]; rfl)) ?_; (with_reducible refine (ih k1 (by have := HK1.out; omega) _ _ l0_0 a0_2 B t202 t203 t204 t207 _ w0 _ HV.out (after_box HV.out HBX.out HX2.out.1 A23.out) HB0.out (by repeat (with_reducible first | exact HB.out | apply bal | apply pbN | apply bdw | refine bst ?_ GE199.out | refine bst ?_ GE200.out | refine bst ?_ GE206.out)) (memo_self (by repeat (with_reducible first | exact HM.out | apply mal | apply mdN | apply mdw | apply mst (hne := NM199.out) | apply mst (hne := NM200.out) | apply mst (hne := NM206.out)))) ?side1 ?side2 A25.out).mono ?_); (case side1 => exact HR0_0.out); (case side2 => exact HC0_0.out); rintro e w65 ⟨rfl, hb, D2_, hM⟩; refine ⟨_, rfl, ?_⟩; have HM_ := As0.mk (memo_trans (by repeat (with_reducible first | exact HM.out | apply mal | apply mdN | apply mdw | apply mst (hne := NM199.out) | apply mst (hne := NM200.out) | apply mst (hne := NM206.out))) hM); clear HM; have HM := HM_; clear HM_; have n0_ := As0.mk (memo_blk (g := gb199) (o := .cells #[.slice (some ad201) l0_0.length c0_0, .func (.func 29) #[] #[], .int .i64 a0_2, .map none, .map (some B)] 55 (0, 0)) hM (by (with_reducible repeat first | refine bkN ?_ _ | refine bkd ?_ | refine bka ?_ _); refine blk_far ?_ NB199_206.out _; (with_reducible repeat first | refine bkN ?_ _ | refine bkd ?_ | refine bka ?_ _); refine blk_far ?_ NB199_206.out _; (with_reducible repeat first | refine bkN ?_ _ | refine bkd ?_ | refine bka ?_ _); refine blk_far ?_ NB199_206.out _; (with_reducible repeat first | refine bkN ?_ _ | refine bkd ?_ | refine bka ?_ _); exact BK199.out) NM199.out.1); have n1_ := As0.mk (memo_blk (g := gb200) (o := .cells #[.int .i64 a1_0, .int .i64 a1_1, .int .i64 a1_2] 63 (0, 0)) hM (by (with_reducible repeat first | refine bkN ?_ _ | refine bkd ?_ | refine bka ?_ _); refine blk_far ?_ NB200_206.out _; (with_reducible repeat first | refine bkN ?_ _ | refine bkd ?_ | refine bka ?_ _); refine blk_far ?_ NB200_206.out _; (with_reducible repeat first | refine bkN ?_ _ | refine bkd ?_ | refine bka ?_ _); refine blk_far ?_ NB200_206.out _; (with_reducible repeat first | refine bkN ?_ _ | refine bkd ?_ | refine bka ?_ _); exact BK200.out) NM200.out.1); have n2_ := As0.mk (memo_blk (g := gb206) (o := .cells #[.int .i64 t202, .int .i64 t203, .int .i64 t204] 63 (0, 0)) hM (by (with_reducible repeat first | refine bkN ?_ _ | refine bkd ?_ | refine bka ?_ _); refine blk_put (cs := #[.int .i64 t202, .int .i64 t203, .int .i64 0]) ?_ 2 _ rfl; (with_reducible repeat first | refine bkN ?_ _ | refine bkd ?_ | refine bka ?_ _); refine blk_put (cs := #[.int .i64 t202, .int .i64 0, .int .i64 0]) ?_ 1 _ rfl; (with_reducible repeat first | refine bkN ?_ _ | refine bkd ?_ | refine bka ?_ _); refine blk_put (cs := #[.int .i64 0, .int .i64 0, .int .i64 0]) ?_ 0 _ rfl; (with_reducible repeat first | refine bkN ?_ _ | refine bkd ?_ | refine bka ?_ _); exact BK206.out) NM206.out.1); have n3_ := As0.mk (hb); clear BK199; clear BK200; clear BK206; clear HB; have BK199 := n0_; have BK200 := n1_; have BK206 := n2_; have HB := n3_; clear n0_ n1_ n2_ n3_; (try clear hM); (try clear hb); (try clear hb2); (try clear hk); (try clear hi)))
             have n0_ := As0.mk (bkd BK199.out)
             have n1_ := As0.mk (bkd BK200.out)
             have n2_ := As0.mk (bkd BK206.out)
             have n3_ := As0.mk (bdw HB.out)
             replace HM := As0.mk (mdw HM.out)
             clear BK199
             clear BK200
             clear BK206
             clear HB
             have BK199 := n0_
             have BK200 := n1_
             have BK206 := n2_
             have HB := n3_
             clear n0_ n1_ n2_ n3_
             have p208 : 0 ≤ (a1_0 : Int) := of_decide_eq_true (by assumption)
             have q208 : a1_0 < (l0_0.length : Int) := of_decide_eq_true (by assumption)
             obtain ⟨ad208, e208, hx208_0, hx208_1, hx208_2, hx208_3⟩ := at_T46 HR0_0.out a1_0 p208 q208
             have hw208_3 := hx208_3
             have hw208_2 := hx208_2
             have hw208_1 := hx208_1
             have hw208_0 := hx208_0
             obtain rfl : ad201 = ad208 := (by injection e208)
             replace hx208_0 := (HB.out.cell (World.block_lt_of_cell? w0 _ hx208_0)).trans hx208_0
             replace hx208_1 := (HB.out.cell (World.block_lt_of_cell? w0 _ hx208_1)).trans hx208_1
             replace hx208_2 := (HB.out.cell (World.block_lt_of_cell? w0 _ hx208_2)).trans hx208_2
             replace hx208_3 := (HB.out.cell (World.block_lt_of_cell? w0 _ hx208_3)).trans hx208_3
             replace p208 := eq_true p208
             replace q208 := eq_true q208
             refine start_ (n := 14) (S := fun w' => w'.cell? ⟨gb199, 0, none⟩ = some (.slice (some ad201) l0_0.length c0_0) ∧ w'.cell? ⟨gb199, 1, none⟩ = some (.func (.func 29) #[] #[]) ∧ w'.cell? ⟨gb199, 2, none⟩ = some (.int .i64 a0_2) ∧ w'.cell? ⟨gb199, 3, none⟩ = some (.map none) ∧ w'.cell? ⟨gb199, 4, none⟩ = some (.map (some B)) ∧ w'.cell? ⟨gb200, 0, none⟩ = some (.int .i64 a1_0) ∧ w'.cell? ⟨gb200, 1, none⟩ = some (.int .i64 a1_1) ∧ w'.cell? ⟨gb200, 2, none⟩ = some (.int .i64 a1_2) ∧ w'.cell? (ad201.add ((a1_0).toNat * 4)) = some (.string ((rd_T46 l0_0 a1_0).f0)) ∧ w'.cell? ⟨(ad201.add ((a1_0).toNat * 4)).block, (ad201.add ((a1_0).toNat * 4)).off + 1, none⟩ = some (.int .i64 ((rd_T46 l0_0 a1_0).f1)) ∧ w'.cell? ⟨(ad201.add ((a1_0).toNat * 4)).block, (ad201.add ((a1_0).toNat * 4)).off + 2, none⟩ = some (.int .i64 ((rd_T46 l0_0 a1_0).f2)) ∧ w'.cell? ⟨(ad201.add ((a1_0).toNat * 4)).block, (ad201.add ((a1_0).toNat * 4)).off + 3, none⟩ = some (.int .i64 ((rd_T46 l0_0 a1_0).f3))) (ds := []) #[false, false, false, false, false, false, false, false, false, false, false, false, false, false] (by kernel_rfl) rfl rfl ⟨(bkc BK199.out 0).trans rfl, (bkc BK199.out 1).trans rfl, (bkc BK199.out 2).trans rfl, (bkc BK199.out 3).trans rfl, (bkc BK199.out 4).trans rfl, (bkc BK200.out 0).trans rfl, (bkc BK200.out 1).trans rfl, (bkc BK200.out 2).trans rfl, ((HB.out.cell (World.block_lt_of_cell? w0 _ hw208_0)).trans hw208_0), ((HB.out.cell (World.block_lt_of_cell? w0 _ hw208_1)).trans hw208_1), ((HB.out.cell (World.block_lt_of_cell? w0 _ hw208_2)).trans hw208_2), ((HB.out.cell (World.block_lt_of_cell? w0 _ hw208_3)).trans hw208_3)⟩ (fun hHeld => ?_); refine with_tabW impl_mixes_least.tab15 impl_mixes_least.bits15 (fun HT_ HW_ => ?_)
             generalize w65.drew = w66 at HM BK199 BK200 BK206 HB hx208_0 hx208_1 hx208_2 hx208_3 hHeld ⊢
             refine pure_ (i := 0) (N := some 54) (v := ?_) (a' := ?_) #[true, false, false, false, false, false, false, false, false, false, false, false, false, false] rfl rfl (any_of HT_.out (by kernel_rfl)) (fun _ _ _ h => h) (Or.inl ⟨by rfl, ?_⟩) ?_ ?_
             rotate_left
             ·intro w'
              go_simp
              with_reducible rfl
             rotate_left
             ·simp only [Act.put, sla, slz, sls, i64_w, i32_w]
              rfl
             refine pure_ (i := 1) (N := some 55) (v := ?_) (a' := ?_) #[true, true, false, false, false, false, false, false, false, false, false, false, false, false] rfl rfl (any_of HT_.out (by kernel_rfl)) (fun _ _ _ h => h) (Or.inl ⟨by rfl, ?_⟩) ?_ ?_
             rotate_left
             ·intro w'
              go_simp
              with_reducible rfl
             rotate_left
             ·simp only [Act.put, sla, slz, sls, i64_w, i32_w]
              rfl
             refine pure_ (i := 2) (N := some 56) (v := ?_) (a' := ?_) #[true, true, true, false, false, false, false, false, false, false, false, false, false, false] rfl rfl (any_of HT_.out (by kernel_rfl)) (fun _ _ _ h => h) (Or.inl ⟨by rfl, ?_⟩) ?_ ?_
             rotate_left
             ·intro w'
              go_simp
              with_reducible rfl
             rotate_left
             ·simp only [Act.put, sla, slz, sls, i64_w, i32_w]
              rfl
             refine pure_ (i := 4) (N := some 58) (v := ?_) (a' := ?_) #[true, true, true, false, true, false, false, false, false, false, false, false, false, false] rfl rfl (any_of HT_.out (by kernel_rfl)) (fun _ _ _ h => h) (Or.inl ⟨by rfl, ?_⟩) ?_ ?_
             rotate_left
             ·intro w'
              go_simp
              with_reducible rfl
             rotate_left
             ·simp only [Act.put, sla, slz, sls, i64_w, i32_w]
              rfl
             refine pure_ (i := 6) (N := some 60) (v := ?_) (a' := ?_) #[true, true, true, false, true, false, true, false, false, false, false, false, false, false] rfl rfl (any_of HT_.out (by kernel_rfl)) (fun _ _ _ h => h) (Or.inl ⟨by rfl, ?_⟩) ?_ ?_
             rotate_left
             ·intro w'
              go_simp
              with_reducible rfl
             rotate_left
             ·simp only [Act.put, sla, slz, sls, i64_w, i32_w]
              rfl
             refine take_ (i := 3) (N := some 57) (v := ?_) (a' := ?_) #[true, true, true, true, true, false, true, false, false, false, false, false, false, false] rfl rfl (take_ofW HT_.out HW_.out (by kernel_rfl)) (fun _ _ _ h => h) (Or.inl ⟨by rfl, ?_⟩) hHeld ?_ ?_
             rotate_left
             ·rintro w' ⟨s0, s1, s2, s3, s4, s5, s6, s7, s8, s9, s10, s11⟩
              go_simp
              with_reducible rfl
             rotate_left
             ·simp only [Act.put, sla, slz, sls, i64_w, i32_w]
              rfl
             refine take_ (i := 5) (N := some 59) (v := ?_) (a' := ?_) #[true, true, true, true, true, true, true, false, false, false, false, false, false, false] rfl rfl (take_ofW HT_.out HW_.out (by kernel_rfl)) (fun _ _ _ h => h) (Or.inl ⟨by rfl, ?_⟩) hHeld ?_ ?_
             rotate_left
             ·rintro w' ⟨s0, s1, s2, s3, s4, s5, s6, s7, s8, s9, s10, s11⟩
              go_simp
              with_reducible rfl
             rotate_left
             ·simp only [Act.put, sla, slz, sls, i64_w, i32_w]
              rfl
             refine take_ (i := 7) (N := some 61) (v := ?_) (a' := ?_) #[true, true, true, true, true, true, true, true, false, false, false, false, false, false] rfl rfl (take_ofW HT_.out HW_.out (by kernel_rfl)) (fun _ _ _ h => h) (Or.inl ⟨by rfl, ?_⟩) hHeld ?_ ?_
             rotate_left
             ·rintro w' ⟨s0, s1, s2, s3, s4, s5, s6, s7, s8, s9, s10, s11⟩
              go_simp
              with_reducible rfl
             rotate_left
             ·simp only [Act.put, sla, slz, sls, i64_w, i32_w]
              rfl
             refine pure_ (i := 8) (N := some 62) (v := ?_) (a' := ?_) #[true, true, true, true, true, true, true, true, true, false, false, false, false, false] rfl rfl (any_of HT_.out (by kernel_rfl)) (fun _ _ _ h => h) (Or.inl ⟨by rfl, ?_⟩) ?_ ?_
             rotate_left
             ·intro w'
              go_simp
              with_reducible rfl
             rotate_left
             ·simp only [Act.put, sla, slz, sls, i64_w, i32_w]
              rfl
             refine take_ (i := 9) (N := some 63) (v := ?_) (a' := ?_) #[true, true, true, true, true, true, true, true, true, true, false, false, false, false] rfl rfl (take_ofW HT_.out HW_.out (by kernel_rfl)) (fun _ _ _ h => h) (Or.inl ⟨by rfl, ?_⟩) hHeld ?_ ?_
             rotate_left
             ·rintro w' ⟨s0, s1, s2, s3, s4, s5, s6, s7, s8, s9, s10, s11⟩
              go_simp
              with_reducible rfl
             rotate_left
             ·simp only [Act.put, sla, slz, sls, i64_w, i32_w]
              rfl
             refine one_ (i := 10) (N := some 64) #[true, true, true, true, true, true, true, true, true, true, true, false, false, false] rfl rfl (one_of HT_.out (by kernel_rfl)) (by decide) (fun K hK => ?_)
             refine goesV_ Try.func29 (by kernel_rfl) rfl #[.agg #[.string ((rd_T46 l0_0 a1_0).f0), .int .i64 ((rd_T46 l0_0 a1_0).f1), .int .i64 ((rd_T46 l0_0 a1_0).f2), .int .i64 ((rd_T46 l0_0 a1_0).f3)]] (by rfl) rfl rfl (by rfl) (by (try simp only [List.map_toArray, List.map_cons, List.map_nil]); first | done | rfl | (simp only [List.length_drop, List.length_take]; rfl)) ?_
             with_reducible refine (impl_price.calls ((rd_T46 l0_0 a1_0).f0) ((rd_T46 l0_0 a1_0).f1) ((rd_T46 l0_0 a1_0).f2) ((rd_T46 l0_0 a1_0).f3) t209 _ A28.out).mono ?_
             rintro e w67 ⟨rfl, hb⟩
             refine ⟨_, rfl, ?_⟩
             have HM_ := As0.mk (memo_below (by repeat (with_reducible first | exact HM.out | apply mal | apply mdN | apply mdw | apply mst (hne := NM199.out) | apply mst (hne := NM200.out) | apply mst (hne := NM206.out))) hb); clear HM; have HM := HM_; clear HM_
             have n0_ := As0.mk (bkb (g := gb199) (o := .cells #[.slice (some ad201) l0_0.length c0_0, .func (.func 29) #[] #[], .int .i64 a0_2, .map none, .map (some B)] 55 (0, 0)) (by (with_reducible repeat first | refine bkN ?_ _ | refine bkd ?_ | refine bka ?_ _); exact BK199.out) hb)
             have n1_ := As0.mk (bkb (g := gb200) (by (with_reducible repeat first | refine bkN ?_ _ | refine bkd ?_ | refine bka ?_ _); exact BK200.out) hb)
             have n2_ := As0.mk (bkb (g := gb206) (by (with_reducible repeat first | refine bkN ?_ _ | refine bkd ?_ | refine bka ?_ _); exact BK206.out) hb)
             have n3_ := As0.mk (bsp (by repeat (with_reducible first | exact HB.out | apply bal | apply pbN | apply bdw | refine bst ?_ GE199.out | refine bst ?_ GE200.out | refine bst ?_ GE206.out)) hb)
             clear BK199
             clear BK200
             clear BK206
             clear HB
             have BK199 := n0_
             have BK200 := n1_
             have BK206 := n2_
             have HB := n3_
             clear n0_ n1_ n2_ n3_
             (try clear hb)
             (try clear hb2)
             (try clear hk)
             (try clear hi)
             refine hK.out _ _ ⟨(bkc BK199.out 0).trans rfl, (bkc BK199.out 1).trans rfl, (bkc BK199.out 2).trans rfl, (bkc BK199.out 3).trans rfl, (bkc BK199.out 4).trans rfl, (bkc BK200.out 0).trans rfl, (bkc BK200.out 1).trans rfl, (bkc BK200.out 2).trans rfl, ((HB.out.cell (World.block_lt_of_cell? w0 _ hw208_0)).trans hw208_0), ((HB.out.cell (World.block_lt_of_cell? w0 _ hw208_1)).trans hw208_1), ((HB.out.cell (World.block_lt_of_cell? w0 _ hw208_2)).trans hw208_2), ((HB.out.cell (World.block_lt_of_cell? w0 _ hw208_3)).trans hw208_3)⟩ (fun hHeld => ?_)
             clear hK K
             refine norm_ (a' := ?_) ?_ ?_
             rotate_left
             ·show Act.put _ (some 64) _ = _
              simp only [Act.put, sla, slz, sls, i64_w, i32_w]
              rfl
             refine pure_ (i := 11) (N := some 65) (v := ?_) (a' := ?_) #[true, true, true, true, true, true, true, true, true, true, true, true, false, false] rfl rfl (any_of HT_.out (by kernel_rfl)) (fun _ _ _ h => h) (Or.inl ⟨by rfl, ?_⟩) ?_ ?_
             rotate_left
             ·intro w'
              go_simp
              with_reducible rfl
             rotate_left
             ·simp only [Act.put, sla, slz, sls, i64_w, i32_w]
              rfl
             refine pure_ (i := 12) (N := some 66) (v := ?_) (a' := ?_) #[true, true, true, true, true, true, true, true, true, true, true, true, true, false] rfl rfl (any_of HT_.out (by kernel_rfl)) (fun _ _ _ h => h) (Or.inl ⟨by rfl, ?_⟩) ?_ ?_
             rotate_left
             ·intro w'
              go_simp
              with_reducible rfl
             rotate_left
             ·simp only [Act.put, sla, slz, sls, i64_w, i32_w]
              rfl
             refine pure_ (i := 13) (N := some 12) (v := ?_) (a' := ?_) #[true, true, true, true, true, true, true, true, true, true, true, true, true, true] rfl rfl (any_of HT_.out (by kernel_rfl)) (fun _ _ _ h => h) (Or.inl ⟨by rfl, ?_⟩) ?_ ?_
             rotate_left
             ·intro w'
              go_simp
              with_reducible rfl
             rotate_left
             ·simp only [Act.put, sla, slz, sls, i64_w, i32_w]
              rfl
             refine done_ (done_of HT_.out (by kernel_rfl)) ?_
             try go_wp2
             go_roundg k1
             case measure => have := HK1.out; omega
             case rel => exact ⟨(x7_1), (wrap64 (x39_1 + 1)), D2_, (by first | rfl | (simp; done) | (simp [*]; done)), (by first | rfl | (simp; done) | (simp [*]; done)), H', ⟨by have := HK1.out; omega⟩, ⟨by (with_reducible repeat first | refine bkN ?_ _ | refine bkd ?_ | refine bka ?_ _); exact BK199.out⟩, ⟨by (with_reducible repeat first | refine bkN ?_ _ | refine bkd ?_ | refine bka ?_ _); exact BK200.out⟩, ⟨by repeat (with_reducible first | exact HB.out | apply bal | apply pbN | apply bdw | refine bst ?_ GE199.out | refine bst ?_ GE200.out | refine bst ?_ GE206.out)⟩, ⟨(by repeat (with_reducible first | exact HM.out | apply mal | apply mdN | apply mdw | apply mst (hne := NM199.out) | apply mst (hne := NM200.out) | apply mst (hne := NM206.out)))⟩, ⟨by first | exact HWF.out | exact wrap64_wf _⟩, ⟨HX2.out.2⟩⟩
          ·as_aux_lemma =>
           rw [if_neg c29] at H
           have c29b0 : decide (0 ≤ t207) = false := decide_eq_false c29
           clear c29
           have H' := As0.mk H
           clear H
           have hnb68 := NB199_200.out
           have hnc68 := NB200_199.out
           have hcz69_0 : wr.cell? ⟨gb199, 0, none⟩ = some (.slice (some ad201) l0_0.length c0_0) := (bkc BK199.out 0).trans rfl
           have hcz69_1 : wr.cell? ⟨gb199, 1, none⟩ = some (.func (.func 29) #[] #[]) := (bkc BK199.out 1).trans rfl
           have hcz69_2 : wr.cell? ⟨gb199, 2, none⟩ = some (.int .i64 a0_2) := (bkc BK199.out 2).trans rfl
           have hcz69_3 : wr.cell? ⟨gb199, 3, none⟩ = some (.map none) := (bkc BK199.out 3).trans rfl
           have hcz69_4 : wr.cell? ⟨gb199, 4, none⟩ = some (.map (some B)) := (bkc BK199.out 4).trans rfl
           have hfz69_0 := bkf BK199.out 0
           have hfz69_1 := bkf BK199.out 1
           have hfz69_2 := bkf BK199.out 2
           have hfz69_3 := bkf BK199.out 3
           have hfz69_4 := bkf BK199.out 4
           have hcz70_0 : wr.cell? ⟨gb200, 0, none⟩ = some (.int .i64 a1_0) := (bkc BK200.out 0).trans rfl
           have hcz70_1 : wr.cell? ⟨gb200, 1, none⟩ = some (.int .i64 a1_1) := (bkc BK200.out 1).trans rfl
           have hcz70_2 : wr.cell? ⟨gb200, 2, none⟩ = some (.int .i64 a1_2) := (bkc BK200.out 2).trans rfl
           have hfz70_0 := bkf BK200.out 0
           have hfz70_1 := bkf BK200.out 1
           have hfz70_2 := bkf BK200.out 2
           try go_wp2_with (first | ((with_reducible refine gce (f := 39) rfl ?_); refine goesL_ (some 46) rfl rfl Try.func39 (by kernel_rfl) rfl #[.agg #[.slice (some ad201) l0_0.length c0_0, .func (.func 29) #[] #[], .int .i64 a0_2, .map none, .map (some B)], .agg #[.int .i64 a1_0, .int .i64 a1_1, .int .i64 a1_2], .int .i64 x39_1] rfl (by (try simp only [List.map_toArray, List.map_cons, List.map_nil]); first | done | rfl | (simp only [List.length_drop, List.length_take]; rfl)) ?_; (with_reducible refine (impl_mixes_after.calls _ _ l0_0 a0_2 (some B) a1_0 a1_1 a1_2 x39_1 t202 t203 t204 true _ ?side1 ?side2 A23.out).mono ?_); (case side1 => repeat (first | exact (Kd.C_below HR0_0.out HB.out) | (with_reducible refine Kd.C_alloc ?_ _) | (with_reducible refine Kd.C_drewN ?_ _) | (with_reducible refine Kd.C_drew ?_))); (case side2 => exact HC0_0.out); rintro e w71 ⟨rfl, hb⟩; refine ⟨_, rfl, ?_⟩; have HM_ := As0.mk (memo_below (by repeat (with_reducible first | exact HM.out | apply mal | apply mdN | apply mdw | apply mst (hne := NM199.out) | apply mst (hne := NM200.out) | apply mst (hne := NM206.out))) hb); clear HM; have HM := HM_; clear HM_; have n0_ := As0.mk (bkb (g := gb199) (o := .cells #[.slice (some ad201) l0_0.length c0_0, .func (.func 29) #[] #[], .int .i64 a0_2, .map none, .map (some B)] 55 (0, 0)) (by (with_reducible repeat first | refine bkN ?_ _ | refine bkd ?_ | refine bka ?_ _); exact BK199.out) hb); have n1_ := As0.mk (bkb (g := gb200) (by (with_reducible repeat first | refine bkN ?_ _ | refine bkd ?_ | refine bka ?_ _); exact BK200.out) hb); have n2_ := As0.mk (bsp (by repeat (with_reducible first | exact HB.out | apply bal | apply pbN | apply bdw | refine bst ?_ GE199.out | refine bst ?_ GE200.out)) hb); clear BK199; clear BK200; clear HB; have BK199 := n0_; have BK200 := n1_; have HB := n2_; clear n0_ n1_ n2_; (try clear hb); (try clear hb2); (try clear hk); (try clear hi)) | ((with_reducible refine gate_dst (N := 9) rfl ?_); refine box_event ?hg (N := 9) ?hd (cs := #[.int .i64 0, .int .i64 0, .int .i64 0]) (t := 63) ?hr ?_; (case hd => rfl); (case hg => rfl); (case hr => first | (go_simp; done) | (go_simp; rfl)); intro gb206 hg w72 hbox hb; have NM206 := As0.mk (memo_new (by repeat (with_reducible first | exact HM.out | apply mal | apply mdN | apply mdw | apply mst (hne := NM199.out) | apply mst (hne := NM200.out) | apply mst (hne := NM206.out))) hg); have HM_ := As0.mk (memo_below (by repeat (with_reducible first | exact HM.out | apply mal | apply mdN | apply mdw | apply mst (hne := NM199.out) | apply mst (hne := NM200.out) | apply mst (hne := NM206.out))) hb); clear HM; have HM := HM_; clear HM_; have n0_ := As0.mk (bkb (g := gb199) (o := .cells #[.slice (some ad201) l0_0.length c0_0, .func (.func 29) #[] #[], .int .i64 a0_2, .map none, .map (some B)] 55 (0, 0)) (by (with_reducible repeat first | refine bkN ?_ _ | refine bkd ?_ | refine bka ?_ _); exact BK199.out) hb); have n1_ := As0.mk (bkb (g := gb200) (by (with_reducible repeat first | refine bkN ?_ _ | refine bkd ?_ | refine bka ?_ _); exact BK200.out) hb); have n2_ := As0.mk (bsp (by repeat (with_reducible first | exact HB.out | apply bal | apply pbN | apply bdw | refine bst ?_ GE199.out | refine bst ?_ GE200.out)) hb); have n3_ := As0.mk (hbox); have n4_ := As0.mk ((by rw [hg]; exact (bsz (by repeat (with_reducible first | exact HB.out | apply bal | apply pbN | apply bdw | refine bst ?_ GE199.out | refine bst ?_ GE200.out))) : w0.heap.size ≤ gb206)); have n5_ := As0.mk ((by rw [hg]; exact (bsz (by repeat (with_reducible first | exact HB.out | apply bal | apply pbN | apply bdw | refine bst ?_ GE199.out | refine bst ?_ GE200.out))) : w0.heap.size ≤ gb206)); have n6_ := As0.mk ((by rw [hg]; exact Nat.ne_of_lt (blk_lt (g := gb199) (o := .cells #[.slice (some ad201) l0_0.length c0_0, .func (.func 29) #[] #[], .int .i64 a0_2, .map none, .map (some B)] 55 (0, 0)) (by (with_reducible repeat first | refine bkN ?_ _ | refine bkd ?_ | refine bka ?_ _); exact BK199.out)) : gb199 ≠ gb206)); have n7_ := As0.mk ((by rw [hg]; exact Nat.ne_of_gt (blk_lt (g := gb199) (o := .cells #[.slice (some ad201) l0_0.length c0_0, .func (.func 29) #[] #[], .int .i64 a0_2, .map none, .map (some B)] 55 (0, 0)) (by (with_reducible repeat first | refine bkN ?_ _ | refine bkd ?_ | refine bka ?_ _); exact BK199.out)) : gb206 ≠ gb199)); have n8_ := As0.mk ((by rw [hg]; exact Nat.ne_of_lt (blk_lt (g := gb200) (o := .cells #[.int .i64 a1_0, .int .i64 a1_1, .int .i64 a1_2] 63 (0, 0)) (by (with_reducible repeat first | refine bkN ?_ _ | refine bkd ?_ | refine bka ?_ _); exact BK200.out)) : gb200 ≠ gb206)); have n9_ := As0.mk ((by rw [hg]; exact Nat.ne_of_gt (blk_lt (g := gb200) (o := .cells #[.int .i64 a1_0, .int .i64 a1_1, .int .i64 a1_2] 63 (0, 0)) (by (with_reducible repeat first | refine bkN ?_ _ | refine bkd ?_ | refine bka ?_ _); exact BK200.out)) : gb206 ≠ gb200)); clear BK199; clear BK200; clear HB; have BK199 := n0_; have BK200 := n1_; have HB := n2_; have BK206 := n3_; have GW206 := n4_; have GE206 := n5_; have NB199_206 := n6_; have NB206_199 := n7_; have NB200_206 := n8_; have NB206_200 := n9_; clear n0_ n1_ n2_ n3_ n4_ n5_ n6_ n7_ n8_ n9_; clear hb hbox hg; have hnb73 := NB206_199.out; have hnc73 := NB199_206.out; have hnb74 := NB206_200.out; have hnc74 := NB200_206.out; have hcz75_0 : w72.cell? ⟨gb206, 0, none⟩ = some (.int .i64 0) := (bkc BK206.out 0).trans rfl; have hcz75_1 : w72.cell? ⟨gb206, 1, none⟩ = some (.int .i64 0) := (bkc BK206.out 1).trans rfl; have hcz75_2 : w72.cell? ⟨gb206, 2, none⟩ = some (.int .i64 0) := (bkc BK206.out 2).trans rfl; have hfz75_0 := bkf BK206.out 0; have hfz75_1 := bkf BK206.out 1; have hfz75_2 := bkf BK206.out 2; have hcz76_0 : w72.cell? ⟨gb199, 0, none⟩ = some (.slice (some ad201) l0_0.length c0_0) := (bkc BK199.out 0).trans rfl; have hcz76_1 : w72.cell? ⟨gb199, 1, none⟩ = some (.func (.func 29) #[] #[]) := (bkc BK199.out 1).trans rfl; have hcz76_2 : w72.cell? ⟨gb199, 2, none⟩ = some (.int .i64 a0_2) := (bkc BK199.out 2).trans rfl; have hcz76_3 : w72.cell? ⟨gb199, 3, none⟩ = some (.map none) := (bkc BK199.out 3).trans rfl; have hcz76_4 : w72.cell? ⟨gb199, 4, none⟩ = some (.map (some B)) := (bkc BK199.out 4).trans rfl; have hfz76_0 := bkf BK199.out 0; have hfz76_1 := bkf BK199.out 1; have hfz76_2 := bkf BK199.out 2; have hfz76_3 := bkf BK199.out 3; have hfz76_4 := bkf BK199.out 4) | ((with_reducible refine gce (f := 38) rfl ?_); refine goesL_ (some 53) rfl rfl Try.func38 (by kernel_rfl) rfl #[.agg #[.slice (some ad201) l0_0.length c0_0, .func (.func 29) #[] #[], .int .i64 a0_2, .map none, .map (some B)], .agg #[.int .i64 t202, .int .i64 t203, .int .i64 t204]] rfl (by (try simp only [List.map_toArray, List.map_cons, List.map_nil]); first | done | rfl | (simp only [List.length_drop, List.length_take]; rfl)) ?_; (with_reducible refine (ih k1 (by have := HK1.out; omega) _ _ l0_0 a0_2 B t202 t203 t204 t207 _ w0 _ HV.out (after_box HV.out HBX.out HX2.out.1 A23.out) HB0.out (by repeat (with_reducible first | exact HB.out | apply bal | apply pbN | apply bdw | refine bst ?_ GE199.out | refine bst ?_ GE200.out | refine bst ?_ GE206.out)) (memo_self (by repeat (with_reducible first | exact HM.out | apply mal | apply mdN | apply mdw | apply mst (hne := NM199.out) | apply mst (hne := NM200.out) | apply mst (hne := NM206.out)))) ?side1 ?side2 A25.out).mono ?_); (case side1 => exact HR0_0.out); (case side2 => exact HC0_0.out); rintro e w77 ⟨rfl, hb, D2_, hM⟩; refine ⟨_, rfl, ?_⟩; have HM_ := As0.mk (memo_trans (by repeat (with_reducible first | exact HM.out | apply mal | apply mdN | apply mdw | apply mst (hne := NM199.out) | apply mst (hne := NM200.out) | apply mst (hne := NM206.out))) hM); clear HM; have HM := HM_; clear HM_; have n0_ := As0.mk (memo_blk (g := gb199) (o := .cells #[.slice (some ad201) l0_0.length c0_0, .func (.func 29) #[] #[], .int .i64 a0_2, .map none, .map (some B)] 55 (0, 0)) hM (by (with_reducible repeat first | refine bkN ?_ _ | refine bkd ?_ | refine bka ?_ _); refine blk_far ?_ NB199_206.out _; (with_reducible repeat first | refine bkN ?_ _ | refine bkd ?_ | refine bka ?_ _); refine blk_far ?_ NB199_206.out _; (with_reducible repeat first | refine bkN ?_ _ | refine bkd ?_ | refine bka ?_ _); refine blk_far ?_ NB199_206.out _; (with_reducible repeat first | refine bkN ?_ _ | refine bkd ?_ | refine bka ?_ _); exact BK199.out) NM199.out.1); have n1_ := As0.mk (memo_blk (g := gb200) (o := .cells #[.int .i64 a1_0, .int .i64 a1_1, .int .i64 a1_2] 63 (0, 0)) hM (by (with_reducible repeat first | refine bkN ?_ _ | refine bkd ?_ | refine bka ?_ _); refine blk_far ?_ NB200_206.out _; (with_reducible repeat first | refine bkN ?_ _ | refine bkd ?_ | refine bka ?_ _); refine blk_far ?_ NB200_206.out _; (with_reducible repeat first | refine bkN ?_ _ | refine bkd ?_ | refine bka ?_ _); refine blk_far ?_ NB200_206.out _; (with_reducible repeat first | refine bkN ?_ _ | refine bkd ?_ | refine bka ?_ _); exact BK200.out) NM200.out.1); have n2_ := As0.mk (memo_blk (g := gb206) (o := .cells #[.int .i64 t202, .int .i64 t203, .int .i64 t204] 63 (0, 0)) hM (by (with_reducible repeat first | refine bkN ?_ _ | refine bkd ?_ | refine bka ?_ _); refine blk_put (cs := #[.int .i64 t202, .int .i64 t203, .int .i64 0]) ?_ 2 _ rfl; (with_reducible repeat first | refine bkN ?_ _ | refine bkd ?_ | refine bka ?_ _); refine blk_put (cs := #[.int .i64 t202, .int .i64 0, .int .i64 0]) ?_ 1 _ rfl; (with_reducible repeat first | refine bkN ?_ _ | refine bkd ?_ | refine bka ?_ _); refine blk_put (cs := #[.int .i64 0, .int .i64 0, .int .i64 0]) ?_ 0 _ rfl; (with_reducible repeat first | refine bkN ?_ _ | refine bkd ?_ | refine bka ?_ _); exact BK206.out) NM206.out.1); have n3_ := As0.mk (hb); clear BK199; clear BK200; clear BK206; clear HB; have BK199 := n0_; have BK200 := n1_; have BK206 := n2_; have HB := n3_; clear n0_ n1_ n2_ n3_; (try clear hM); (try clear hb); (try clear hb2); (try clear hk); (try clear hi)))
           have n0_ := As0.mk (bkd BK199.out)
           have n1_ := As0.mk (bkd BK200.out)
           have n2_ := As0.mk (bkd BK206.out)
           have n3_ := As0.mk (bdw HB.out)
           replace HM := As0.mk (mdw HM.out)
           clear BK199
           clear BK200
           clear BK206
           clear HB
           have BK199 := n0_
           have BK200 := n1_
           have BK206 := n2_
           have HB := n3_
           clear n0_ n1_ n2_ n3_
           have p208 : 0 ≤ (a1_0 : Int) := of_decide_eq_true (by assumption)
           have q208 : a1_0 < (l0_0.length : Int) := of_decide_eq_true (by assumption)
           obtain ⟨ad208, e208, hx208_0, hx208_1, hx208_2, hx208_3⟩ := at_T46 HR0_0.out a1_0 p208 q208
           have hw208_3 := hx208_3
           have hw208_2 := hx208_2
           have hw208_1 := hx208_1
           have hw208_0 := hx208_0
           obtain rfl : ad201 = ad208 := (by injection e208)
           replace hx208_0 := (HB.out.cell (World.block_lt_of_cell? w0 _ hx208_0)).trans hx208_0
           replace hx208_1 := (HB.out.cell (World.block_lt_of_cell? w0 _ hx208_1)).trans hx208_1
           replace hx208_2 := (HB.out.cell (World.block_lt_of_cell? w0 _ hx208_2)).trans hx208_2
           replace hx208_3 := (HB.out.cell (World.block_lt_of_cell? w0 _ hx208_3)).trans hx208_3
           replace p208 := eq_true p208
           replace q208 := eq_true q208
           refine start_ (n := 14) (S := fun w' => w'.cell? ⟨gb199, 0, none⟩ = some (.slice (some ad201) l0_0.length c0_0) ∧ w'.cell? ⟨gb199, 1, none⟩ = some (.func (.func 29) #[] #[]) ∧ w'.cell? ⟨gb199, 2, none⟩ = some (.int .i64 a0_2) ∧ w'.cell? ⟨gb199, 3, none⟩ = some (.map none) ∧ w'.cell? ⟨gb199, 4, none⟩ = some (.map (some B)) ∧ w'.cell? ⟨gb200, 0, none⟩ = some (.int .i64 a1_0) ∧ w'.cell? ⟨gb200, 1, none⟩ = some (.int .i64 a1_1) ∧ w'.cell? ⟨gb200, 2, none⟩ = some (.int .i64 a1_2) ∧ w'.cell? (ad201.add ((a1_0).toNat * 4)) = some (.string ((rd_T46 l0_0 a1_0).f0)) ∧ w'.cell? ⟨(ad201.add ((a1_0).toNat * 4)).block, (ad201.add ((a1_0).toNat * 4)).off + 1, none⟩ = some (.int .i64 ((rd_T46 l0_0 a1_0).f1)) ∧ w'.cell? ⟨(ad201.add ((a1_0).toNat * 4)).block, (ad201.add ((a1_0).toNat * 4)).off + 2, none⟩ = some (.int .i64 ((rd_T46 l0_0 a1_0).f2)) ∧ w'.cell? ⟨(ad201.add ((a1_0).toNat * 4)).block, (ad201.add ((a1_0).toNat * 4)).off + 3, none⟩ = some (.int .i64 ((rd_T46 l0_0 a1_0).f3))) (ds := []) #[false, false, false, false, false, false, false, false, false, false, false, false, false, false] (by kernel_rfl) rfl rfl ⟨(bkc BK199.out 0).trans rfl, (bkc BK199.out 1).trans rfl, (bkc BK199.out 2).trans rfl, (bkc BK199.out 3).trans rfl, (bkc BK199.out 4).trans rfl, (bkc BK200.out 0).trans rfl, (bkc BK200.out 1).trans rfl, (bkc BK200.out 2).trans rfl, ((HB.out.cell (World.block_lt_of_cell? w0 _ hw208_0)).trans hw208_0), ((HB.out.cell (World.block_lt_of_cell? w0 _ hw208_1)).trans hw208_1), ((HB.out.cell (World.block_lt_of_cell? w0 _ hw208_2)).trans hw208_2), ((HB.out.cell (World.block_lt_of_cell? w0 _ hw208_3)).trans hw208_3)⟩ (fun hHeld => ?_); refine with_tabW impl_mixes_least.tab15 impl_mixes_least.bits15 (fun HT_ HW_ => ?_)
           generalize w77.drew = w78 at HM BK199 BK200 BK206 HB hx208_0 hx208_1 hx208_2 hx208_3 hHeld ⊢
           refine pure_ (i := 0) (N := some 54) (v := ?_) (a' := ?_) #[true, false, false, false, false, false, false, false, false, false, false, false, false, false] rfl rfl (any_of HT_.out (by kernel_rfl)) (fun _ _ _ h => h) (Or.inl ⟨by rfl, ?_⟩) ?_ ?_
           rotate_left
           ·intro w'
            go_simp
            with_reducible rfl
           rotate_left
           ·simp only [Act.put, sla, slz, sls, i64_w, i32_w]
            rfl
           refine pure_ (i := 1) (N := some 55) (v := ?_) (a' := ?_) #[true, true, false, false, false, false, false, false, false, false, false, false, false, false] rfl rfl (any_of HT_.out (by kernel_rfl)) (fun _ _ _ h => h) (Or.inl ⟨by rfl, ?_⟩) ?_ ?_
           rotate_left
           ·intro w'
            go_simp
            with_reducible rfl
           rotate_left
           ·simp only [Act.put, sla, slz, sls, i64_w, i32_w]
            rfl
           refine pure_ (i := 2) (N := some 56) (v := ?_) (a' := ?_) #[true, true, true, false, false, false, false, false, false, false, false, false, false, false] rfl rfl (any_of HT_.out (by kernel_rfl)) (fun _ _ _ h => h) (Or.inl ⟨by rfl, ?_⟩) ?_ ?_
           rotate_left
           ·intro w'
            go_simp
            with_reducible rfl
           rotate_left
           ·simp only [Act.put, sla, slz, sls, i64_w, i32_w]
            rfl
           refine pure_ (i := 4) (N := some 58) (v := ?_) (a' := ?_) #[true, true, true, false, true, false, false, false, false, false, false, false, false, false] rfl rfl (any_of HT_.out (by kernel_rfl)) (fun _ _ _ h => h) (Or.inl ⟨by rfl, ?_⟩) ?_ ?_
           rotate_left
           ·intro w'
            go_simp
            with_reducible rfl
           rotate_left
           ·simp only [Act.put, sla, slz, sls, i64_w, i32_w]
            rfl
           refine pure_ (i := 6) (N := some 60) (v := ?_) (a' := ?_) #[true, true, true, false, true, false, true, false, false, false, false, false, false, false] rfl rfl (any_of HT_.out (by kernel_rfl)) (fun _ _ _ h => h) (Or.inl ⟨by rfl, ?_⟩) ?_ ?_
           rotate_left
           ·intro w'
            go_simp
            with_reducible rfl
           rotate_left
           ·simp only [Act.put, sla, slz, sls, i64_w, i32_w]
            rfl
           refine take_ (i := 3) (N := some 57) (v := ?_) (a' := ?_) #[true, true, true, true, true, false, true, false, false, false, false, false, false, false] rfl rfl (take_ofW HT_.out HW_.out (by kernel_rfl)) (fun _ _ _ h => h) (Or.inl ⟨by rfl, ?_⟩) hHeld ?_ ?_
           rotate_left
           ·rintro w' ⟨s0, s1, s2, s3, s4, s5, s6, s7, s8, s9, s10, s11⟩
            go_simp
            with_reducible rfl
           rotate_left
           ·simp only [Act.put, sla, slz, sls, i64_w, i32_w]
            rfl
           refine take_ (i := 5) (N := some 59) (v := ?_) (a' := ?_) #[true, true, true, true, true, true, true, false, false, false, false, false, false, false] rfl rfl (take_ofW HT_.out HW_.out (by kernel_rfl)) (fun _ _ _ h => h) (Or.inl ⟨by rfl, ?_⟩) hHeld ?_ ?_
           rotate_left
           ·rintro w' ⟨s0, s1, s2, s3, s4, s5, s6, s7, s8, s9, s10, s11⟩
            go_simp
            with_reducible rfl
           rotate_left
           ·simp only [Act.put, sla, slz, sls, i64_w, i32_w]
            rfl
           refine take_ (i := 7) (N := some 61) (v := ?_) (a' := ?_) #[true, true, true, true, true, true, true, true, false, false, false, false, false, false] rfl rfl (take_ofW HT_.out HW_.out (by kernel_rfl)) (fun _ _ _ h => h) (Or.inl ⟨by rfl, ?_⟩) hHeld ?_ ?_
           rotate_left
           ·rintro w' ⟨s0, s1, s2, s3, s4, s5, s6, s7, s8, s9, s10, s11⟩
            go_simp
            with_reducible rfl
           rotate_left
           ·simp only [Act.put, sla, slz, sls, i64_w, i32_w]
            rfl
           refine pure_ (i := 8) (N := some 62) (v := ?_) (a' := ?_) #[true, true, true, true, true, true, true, true, true, false, false, false, false, false] rfl rfl (any_of HT_.out (by kernel_rfl)) (fun _ _ _ h => h) (Or.inl ⟨by rfl, ?_⟩) ?_ ?_
           rotate_left
           ·intro w'
            go_simp
            with_reducible rfl
           rotate_left
           ·simp only [Act.put, sla, slz, sls, i64_w, i32_w]
            rfl
           refine take_ (i := 9) (N := some 63) (v := ?_) (a' := ?_) #[true, true, true, true, true, true, true, true, true, true, false, false, false, false] rfl rfl (take_ofW HT_.out HW_.out (by kernel_rfl)) (fun _ _ _ h => h) (Or.inl ⟨by rfl, ?_⟩) hHeld ?_ ?_
           rotate_left
           ·rintro w' ⟨s0, s1, s2, s3, s4, s5, s6, s7, s8, s9, s10, s11⟩
            go_simp
            with_reducible rfl
           rotate_left
           ·simp only [Act.put, sla, slz, sls, i64_w, i32_w]
            rfl
           refine one_ (i := 10) (N := some 64) #[true, true, true, true, true, true, true, true, true, true, true, false, false, false] rfl rfl (one_of HT_.out (by kernel_rfl)) (by decide) (fun K hK => ?_)
           refine goesV_ Try.func29 (by kernel_rfl) rfl #[.agg #[.string ((rd_T46 l0_0 a1_0).f0), .int .i64 ((rd_T46 l0_0 a1_0).f1), .int .i64 ((rd_T46 l0_0 a1_0).f2), .int .i64 ((rd_T46 l0_0 a1_0).f3)]] (by rfl) rfl rfl (by rfl) (by (try simp only [List.map_toArray, List.map_cons, List.map_nil]); first | done | rfl | (simp only [List.length_drop, List.length_take]; rfl)) ?_
           with_reducible refine (impl_price.calls ((rd_T46 l0_0 a1_0).f0) ((rd_T46 l0_0 a1_0).f1) ((rd_T46 l0_0 a1_0).f2) ((rd_T46 l0_0 a1_0).f3) t209 _ A28.out).mono ?_
           rintro e w79 ⟨rfl, hb⟩
           refine ⟨_, rfl, ?_⟩
           have HM_ := As0.mk (memo_below (by repeat (with_reducible first | exact HM.out | apply mal | apply mdN | apply mdw | apply mst (hne := NM199.out) | apply mst (hne := NM200.out) | apply mst (hne := NM206.out))) hb); clear HM; have HM := HM_; clear HM_
           have n0_ := As0.mk (bkb (g := gb199) (o := .cells #[.slice (some ad201) l0_0.length c0_0, .func (.func 29) #[] #[], .int .i64 a0_2, .map none, .map (some B)] 55 (0, 0)) (by (with_reducible repeat first | refine bkN ?_ _ | refine bkd ?_ | refine bka ?_ _); exact BK199.out) hb)
           have n1_ := As0.mk (bkb (g := gb200) (by (with_reducible repeat first | refine bkN ?_ _ | refine bkd ?_ | refine bka ?_ _); exact BK200.out) hb)
           have n2_ := As0.mk (bkb (g := gb206) (by (with_reducible repeat first | refine bkN ?_ _ | refine bkd ?_ | refine bka ?_ _); exact BK206.out) hb)
           have n3_ := As0.mk (bsp (by repeat (with_reducible first | exact HB.out | apply bal | apply pbN | apply bdw | refine bst ?_ GE199.out | refine bst ?_ GE200.out | refine bst ?_ GE206.out)) hb)
           clear BK199
           clear BK200
           clear BK206
           clear HB
           have BK199 := n0_
           have BK200 := n1_
           have BK206 := n2_
           have HB := n3_
           clear n0_ n1_ n2_ n3_
           (try clear hb)
           (try clear hb2)
           (try clear hk)
           (try clear hi)
           refine hK.out _ _ ⟨(bkc BK199.out 0).trans rfl, (bkc BK199.out 1).trans rfl, (bkc BK199.out 2).trans rfl, (bkc BK199.out 3).trans rfl, (bkc BK199.out 4).trans rfl, (bkc BK200.out 0).trans rfl, (bkc BK200.out 1).trans rfl, (bkc BK200.out 2).trans rfl, ((HB.out.cell (World.block_lt_of_cell? w0 _ hw208_0)).trans hw208_0), ((HB.out.cell (World.block_lt_of_cell? w0 _ hw208_1)).trans hw208_1), ((HB.out.cell (World.block_lt_of_cell? w0 _ hw208_2)).trans hw208_2), ((HB.out.cell (World.block_lt_of_cell? w0 _ hw208_3)).trans hw208_3)⟩ (fun hHeld => ?_)
           clear hK K
           refine norm_ (a' := ?_) ?_ ?_
           rotate_left
           ·show Act.put _ (some 64) _ = _
            simp only [Act.put, sla, slz, sls, i64_w, i32_w]
            rfl
           refine pure_ (i := 11) (N := some 65) (v := ?_) (a' := ?_) #[true, true, true, true, true, true, true, true, true, true, true, true, false, false] rfl rfl (any_of HT_.out (by kernel_rfl)) (fun _ _ _ h => h) (Or.inl ⟨by rfl, ?_⟩) ?_ ?_
           rotate_left
           ·intro w'
            go_simp
            with_reducible rfl
           rotate_left
           ·simp only [Act.put, sla, slz, sls, i64_w, i32_w]
            rfl
           refine pure_ (i := 12) (N := some 66) (v := ?_) (a' := ?_) #[true, true, true, true, true, true, true, true, true, true, true, true, true, false] rfl rfl (any_of HT_.out (by kernel_rfl)) (fun _ _ _ h => h) (Or.inl ⟨by rfl, ?_⟩) ?_ ?_
           rotate_left
           ·intro w'
            go_simp
            with_reducible rfl
           rotate_left
           ·simp only [Act.put, sla, slz, sls, i64_w, i32_w]
            rfl
           refine pure_ (i := 13) (N := some 12) (v := ?_) (a' := ?_) #[true, true, true, true, true, true, true, true, true, true, true, true, true, true] rfl rfl (any_of HT_.out (by kernel_rfl)) (fun _ _ _ h => h) (Or.inl ⟨by rfl, ?_⟩) ?_ ?_
           rotate_left
           ·intro w'
            go_simp
            with_reducible rfl
           rotate_left
           ·simp only [Act.put, sla, slz, sls, i64_w, i32_w]
            rfl
           refine done_ (done_of HT_.out (by kernel_rfl)) ?_
           try go_wp2
           go_roundg k1
           case measure => have := HK1.out; omega
           case rel => exact ⟨(x7_1), (wrap64 (x39_1 + 1)), D2_, (by first | rfl | (simp; done) | (simp [*]; done)), (by first | rfl | (simp; done) | (simp [*]; done)), H', ⟨by have := HK1.out; omega⟩, ⟨by (with_reducible repeat first | refine bkN ?_ _ | refine bkd ?_ | refine bka ?_ _); exact BK199.out⟩, ⟨by (with_reducible repeat first | refine bkN ?_ _ | refine bkd ?_ | refine bka ?_ _); exact BK200.out⟩, ⟨by repeat (with_reducible first | exact HB.out | apply bal | apply pbN | apply bdw | refine bst ?_ GE199.out | refine bst ?_ GE200.out | refine bst ?_ GE206.out)⟩, ⟨(by repeat (with_reducible first | exact HM.out | apply mal | apply mdN | apply mdw | apply mst (hne := NM199.out) | apply mst (hne := NM200.out) | apply mst (hne := NM206.out)))⟩, ⟨by first | exact HWF.out | exact wrap64_wf _⟩, ⟨HX2.out.2⟩⟩
         ·rw [if_neg c27] at H
          exact absurd H (by simp)
        ·rw [if_neg c26] at H
         exact absurd H (by simp)
       ·replace c24 := Bool.eq_false_iff.mpr c24
        subst c24
        have H1 : (impl_mixes_least.l0 k1 x7_1 (wrap64 (((rd_T46 l0_0 a1_0).f3) + 1)) (wrap64 (x39_1 + 1)) l0_0 0 a0_2 0 0 a1_0 a1_1 a1_2) = some r := by rw [if_neg (show ¬ (false = true) by decide)] at H; exact H
        clear H
        have H := H1
        clear H1
        have H' := As0.mk H
        clear H
        have hnb80 := NB199_200.out
        have hnc80 := NB200_199.out
        have hcz81_0 : wr.cell? ⟨gb199, 0, none⟩ = some (.slice (some ad201) l0_0.length c0_0) := (bkc BK199.out 0).trans rfl
        have hcz81_1 : wr.cell? ⟨gb199, 1, none⟩ = some (.func (.func 29) #[] #[]) := (bkc BK199.out 1).trans rfl
        have hcz81_2 : wr.cell? ⟨gb199, 2, none⟩ = some (.int .i64 a0_2) := (bkc BK199.out 2).trans rfl
        have hcz81_3 : wr.cell? ⟨gb199, 3, none⟩ = some (.map none) := (bkc BK199.out 3).trans rfl
        have hcz81_4 : wr.cell? ⟨gb199, 4, none⟩ = some (.map (some B)) := (bkc BK199.out 4).trans rfl
        have hfz81_0 := bkf BK199.out 0
        have hfz81_1 := bkf BK199.out 1
        have hfz81_2 := bkf BK199.out 2
        have hfz81_3 := bkf BK199.out 3
        have hfz81_4 := bkf BK199.out 4
        have hcz82_0 : wr.cell? ⟨gb200, 0, none⟩ = some (.int .i64 a1_0) := (bkc BK200.out 0).trans rfl
        have hcz82_1 : wr.cell? ⟨gb200, 1, none⟩ = some (.int .i64 a1_1) := (bkc BK200.out 1).trans rfl
        have hcz82_2 : wr.cell? ⟨gb200, 2, none⟩ = some (.int .i64 a1_2) := (bkc BK200.out 2).trans rfl
        have hfz82_0 := bkf BK200.out 0
        have hfz82_1 := bkf BK200.out 1
        have hfz82_2 := bkf BK200.out 2
        go_wp2_with (first | ((with_reducible refine gce (f := 39) rfl ?_); refine goesL_ (some 46) rfl rfl Try.func39 (by kernel_rfl) rfl #[.agg #[.slice (some ad201) l0_0.length c0_0, .func (.func 29) #[] #[], .int .i64 a0_2, .map none, .map (some B)], .agg #[.int .i64 a1_0, .int .i64 a1_1, .int .i64 a1_2], .int .i64 x39_1] rfl (by (try simp only [List.map_toArray, List.map_cons, List.map_nil]); first | done | rfl | (simp only [List.length_drop, List.length_take]; rfl)) ?_; (with_reducible refine (impl_mixes_after.calls _ _ l0_0 a0_2 (some B) a1_0 a1_1 a1_2 x39_1 t202 t203 t204 false _ ?side1 ?side2 A23.out).mono ?_); (case side1 => repeat (first | exact (Kd.C_below HR0_0.out HB.out) | (with_reducible refine Kd.C_alloc ?_ _) | (with_reducible refine Kd.C_drewN ?_ _) | (with_reducible refine Kd.C_drew ?_))); (case side2 => exact HC0_0.out); rintro e w83 ⟨rfl, hb⟩; refine ⟨_, rfl, ?_⟩; have HM_ := As0.mk (memo_below (by repeat (with_reducible first | exact HM.out | apply mal | apply mdN | apply mdw | apply mst (hne := NM199.out) | apply mst (hne := NM200.out) | apply mst (hne := NM206.out))) hb); clear HM; have HM := HM_; clear HM_; have n0_ := As0.mk (bkb (g := gb199) (o := .cells #[.slice (some ad201) l0_0.length c0_0, .func (.func 29) #[] #[], .int .i64 a0_2, .map none, .map (some B)] 55 (0, 0)) (by (with_reducible repeat first | refine bkN ?_ _ | refine bkd ?_ | refine bka ?_ _); exact BK199.out) hb); have n1_ := As0.mk (bkb (g := gb200) (by (with_reducible repeat first | refine bkN ?_ _ | refine bkd ?_ | refine bka ?_ _); exact BK200.out) hb); have n2_ := As0.mk (bsp (by repeat (with_reducible first | exact HB.out | apply bal | apply pbN | apply bdw | refine bst ?_ GE199.out | refine bst ?_ GE200.out)) hb); clear BK199; clear BK200; clear HB; have BK199 := n0_; have BK200 := n1_; have HB := n2_; clear n0_ n1_ n2_; (try clear hb); (try clear hb2); (try clear hk); (try clear hi)) | ((with_reducible refine gate_dst (N := 9) rfl ?_); refine box_event ?hg (N := 9) ?hd (cs := #[.int .i64 0, .int .i64 0, .int .i64 0]) (t := 63) ?hr ?_; (case hd => rfl); (case hg => rfl); (case hr => first | (go_simp; done) | (go_simp; rfl)); intro gb206 hg w84 hbox hb; have NM206 := As0.mk (memo_new (by repeat (with_reducible first | exact HM.out | apply mal | apply mdN | apply mdw | apply mst (hne := NM199.out) | apply mst (hne := NM200.out) | apply mst (hne := NM206.out))) hg); have HM_ := As0.mk (memo_below (by repeat (with_reducible first | exact HM.out | apply mal | apply mdN | apply mdw | apply mst (hne := NM199.out) | apply mst (hne := NM200.out) | apply mst (hne := NM206.out))) hb); clear HM; have HM := HM_; clear HM_; have n0_ := As0.mk (bkb (g := gb199) (o := .cells #[.slice (some ad201) l0_0.length c0_0, .func (.func 29) #[] #[], .int .i64 a0_2, .map none, .map (some B)] 55 (0, 0)) (by (with_reducible repeat first | refine bkN ?_ _ | refine bkd ?_ | refine bka ?_ _); exact BK199.out) hb); have n1_ := As0.mk (bkb (g := gb200) (by (with_reducible repeat first | refine bkN ?_ _ | refine bkd ?_ | refine bka ?_ _); exact BK200.out) hb); have n2_ := As0.mk (bsp (by repeat (with_reducible first | exact HB.out | apply bal | apply pbN | apply bdw | refine bst ?_ GE199.out | refine bst ?_ GE200.out)) hb); have n3_ := As0.mk (hbox); have n4_ := As0.mk ((by rw [hg]; exact (bsz (by repeat (with_reducible first | exact HB.out | apply bal | apply pbN | apply bdw | refine bst ?_ GE199.out | refine bst ?_ GE200.out))) : w0.heap.size ≤ gb206)); have n5_ := As0.mk ((by rw [hg]; exact (bsz (by repeat (with_reducible first | exact HB.out | apply bal | apply pbN | apply bdw | refine bst ?_ GE199.out | refine bst ?_ GE200.out))) : w0.heap.size ≤ gb206)); have n6_ := As0.mk ((by rw [hg]; exact Nat.ne_of_lt (blk_lt (g := gb199) (o := .cells #[.slice (some ad201) l0_0.length c0_0, .func (.func 29) #[] #[], .int .i64 a0_2, .map none, .map (some B)] 55 (0, 0)) (by (with_reducible repeat first | refine bkN ?_ _ | refine bkd ?_ | refine bka ?_ _); exact BK199.out)) : gb199 ≠ gb206)); have n7_ := As0.mk ((by rw [hg]; exact Nat.ne_of_gt (blk_lt (g := gb199) (o := .cells #[.slice (some ad201) l0_0.length c0_0, .func (.func 29) #[] #[], .int .i64 a0_2, .map none, .map (some B)] 55 (0, 0)) (by (with_reducible repeat first | refine bkN ?_ _ | refine bkd ?_ | refine bka ?_ _); exact BK199.out)) : gb206 ≠ gb199)); have n8_ := As0.mk ((by rw [hg]; exact Nat.ne_of_lt (blk_lt (g := gb200) (o := .cells #[.int .i64 a1_0, .int .i64 a1_1, .int .i64 a1_2] 63 (0, 0)) (by (with_reducible repeat first | refine bkN ?_ _ | refine bkd ?_ | refine bka ?_ _); exact BK200.out)) : gb200 ≠ gb206)); have n9_ := As0.mk ((by rw [hg]; exact Nat.ne_of_gt (blk_lt (g := gb200) (o := .cells #[.int .i64 a1_0, .int .i64 a1_1, .int .i64 a1_2] 63 (0, 0)) (by (with_reducible repeat first | refine bkN ?_ _ | refine bkd ?_ | refine bka ?_ _); exact BK200.out)) : gb206 ≠ gb200)); clear BK199; clear BK200; clear HB; have BK199 := n0_; have BK200 := n1_; have HB := n2_; have BK206 := n3_; have GW206 := n4_; have GE206 := n5_; have NB199_206 := n6_; have NB206_199 := n7_; have NB200_206 := n8_; have NB206_200 := n9_; clear n0_ n1_ n2_ n3_ n4_ n5_ n6_ n7_ n8_ n9_; clear hb hbox hg; have hnb85 := NB206_199.out; have hnc85 := NB199_206.out; have hnb86 := NB206_200.out; have hnc86 := NB200_206.out; have hcz87_0 : w84.cell? ⟨gb206, 0, none⟩ = some (.int .i64 0) := (bkc BK206.out 0).trans rfl; have hcz87_1 : w84.cell? ⟨gb206, 1, none⟩ = some (.int .i64 0) := (bkc BK206.out 1).trans rfl; have hcz87_2 : w84.cell? ⟨gb206, 2, none⟩ = some (.int .i64 0) := (bkc BK206.out 2).trans rfl; have hfz87_0 := bkf BK206.out 0; have hfz87_1 := bkf BK206.out 1; have hfz87_2 := bkf BK206.out 2))
        go_roundg k1
        case measure => have := HK1.out; omega
        case rel => exact ⟨(x7_1), (wrap64 (x39_1 + 1)), D_, (by first | rfl | (simp; done) | (simp [*]; done)), (by first | rfl | (simp; done) | (simp [*]; done)), H', ⟨by have := HK1.out; omega⟩, ⟨by (with_reducible repeat first | refine bkN ?_ _ | refine bkd ?_ | refine bka ?_ _); refine blk_far ?_ NB199_206.out _; (with_reducible repeat first | refine bkN ?_ _ | refine bkd ?_ | refine bka ?_ _); refine blk_far ?_ NB199_206.out _; (with_reducible repeat first | refine bkN ?_ _ | refine bkd ?_ | refine bka ?_ _); refine blk_far ?_ NB199_206.out _; (with_reducible repeat first | refine bkN ?_ _ | refine bkd ?_ | refine bka ?_ _); exact BK199.out⟩, ⟨by (with_reducible repeat first | refine bkN ?_ _ | refine bkd ?_ | refine bka ?_ _); refine blk_far ?_ NB200_206.out _; (with_reducible repeat first | refine bkN ?_ _ | refine bkd ?_ | refine bka ?_ _); refine blk_far ?_ NB200_206.out _; (with_reducible repeat first | refine bkN ?_ _ | refine bkd ?_ | refine bka ?_ _); refine blk_far ?_ NB200_206.out _; (with_reducible repeat first | refine bkN ?_ _ | refine bkd ?_ | refine bka ?_ _); exact BK200.out⟩, ⟨by repeat (with_reducible first | exact HB.out | apply bal | apply pbN | apply bdw | refine bst ?_ GE199.out | refine bst ?_ GE200.out | refine bst ?_ GE206.out)⟩, ⟨(by repeat (with_reducible first | exact HM.out | apply mal | apply mdN | apply mdw | apply mst (hne := NM199.out) | apply mst (hne := NM200.out) | apply mst (hne := NM206.out)))⟩, ⟨by first | exact HWF.out | exact wrap64_wf _⟩, ⟨HX2.out.2⟩⟩
      ·rw [if_neg c22] at H
       have c22b0 : decide (x39_1 < (wrap64 (((rd_T46 l0_0 a1_0).f3) + 1))) = false := decide_eq_false c22
       clear c22
       obtain rfl := Option.some.inj H
       have hnb88 := NB199_200.out
       have hnc88 := NB200_199.out
       have hcz89_0 : wr.cell? ⟨gb199, 0, none⟩ = some (.slice (some ad201) l0_0.length c0_0) := (bkc BK199.out 0).trans rfl
       have hcz89_1 : wr.cell? ⟨gb199, 1, none⟩ = some (.func (.func 29) #[] #[]) := (bkc BK199.out 1).trans rfl
       have hcz89_2 : wr.cell? ⟨gb199, 2, none⟩ = some (.int .i64 a0_2) := (bkc BK199.out 2).trans rfl
       have hcz89_3 : wr.cell? ⟨gb199, 3, none⟩ = some (.map none) := (bkc BK199.out 3).trans rfl
       have hcz89_4 : wr.cell? ⟨gb199, 4, none⟩ = some (.map (some B)) := (bkc BK199.out 4).trans rfl
       have hfz89_0 := bkf BK199.out 0
       have hfz89_1 := bkf BK199.out 1
       have hfz89_2 := bkf BK199.out 2
       have hfz89_3 := bkf BK199.out 3
       have hfz89_4 := bkf BK199.out 4
       have hcz90_0 : wr.cell? ⟨gb200, 0, none⟩ = some (.int .i64 a1_0) := (bkc BK200.out 0).trans rfl
       have hcz90_1 : wr.cell? ⟨gb200, 1, none⟩ = some (.int .i64 a1_1) := (bkc BK200.out 1).trans rfl
       have hcz90_2 : wr.cell? ⟨gb200, 2, none⟩ = some (.int .i64 a1_2) := (bkc BK200.out 2).trans rfl
       have hfz90_0 := bkf BK200.out 0
       have hfz90_1 := bkf BK200.out 1
       have hfz90_2 := bkf BK200.out 2
       go_wp2_with (first | (at_mapUpdate; refine memo_store (by repeat (with_reducible first | exact HM.out | apply mal | apply mdN | apply mdw | apply mst (hne := NM199.out) | apply mst (hne := NM200.out) | apply mst (hne := NM206.out))) rfl (.tmp 81) (.tmp 82) (.tmp 83) rfl rfl rfl HBX.out rfl HWF.out HF.out ?_; intro D2_ wS_ hM2_ hg2_; have HMS := As0.mk hM2_; have HBS := As0.mk (Below.grown (by repeat (with_reducible first | exact HB.out | apply bal | apply pbN | apply bdw | refine bst ?_ GE199.out | refine bst ?_ GE200.out)) hg2_ (bsz (by repeat (with_reducible first | exact HB.out | apply bal | apply pbN | apply bdw | refine bst ?_ GE199.out | refine bst ?_ GE200.out))) (fun k_ hk_ => by cases hk_; exact HB0.out)); clear hM2_ hg2_))
       go_ret
       exact ⟨by first | rfl | (simp [eWn, eWs] <;> rfl) | (simp [*, eWn, eWs] <;> rfl), (by repeat (first | (with_reducible first | exact HBS.out | apply bal | apply pbN | apply bdw) | exact HBS.out)), _, (by repeat (with_reducible first | exact HMS.out | apply mal | apply mdN | apply mdw))⟩
   ·rw [if_neg c16] at H
    exact absurd H (by simp)
  ·rw [if_neg c15] at H
   exact absurd H (by simp)

end Go.Proofs.Ytnhkamfccoppbaa.QCleanestMix
