-- Written by press.py, a program of this session, round the kit's print.py (functions and contracts; Lean checks them).
import Derived.Lib.Overlaps
import Derived.Lib.AppendZerosOnto
import Derived.Laws.Externs
import Derived.Deep.RegionLaw
import Derived.Test.YtnmdljdkbpgdaaaQInterestx0
import Derived.Test.YtnmdljdkbpgdaaaQInterestx2
namespace Go.Proofs.Ytnmdljdkbpgdaaa.QInterest
open Go.Proofs.Ytnmdljdkbpgdaaa.QWords
attribute [local go_sem high] binOp_string_geq_q binOp_string_leq_q binOp_string_gtr_q
open Go.RowKit Go.Proofs.YtnmdljdkbpgdaaaW.PrintWords Go.Proofs.YtnmdljdkbpgdaaaW.PrintLast Go.Proofs.YtnmdljdkbpgdaaaW.PrintMore
attribute [local go_sem] max2_int min2_int max_two min_two max_three min_three max_four min_four   -- for this text's walks alone
set_option linter.unusedVariables false
set_option linter.unusedSimpArgs false

/-! ### slices_Clone_Posting: function 156 -/
def slices_Clone_Posting.f (l0 : List (S128)) : Option ((List (S128))) := (some (([] : List (S128)) : List (S128))).bind fun y111 => (if y111.length + l0.length < 4398046511104 then (some (y111 ++ l0)) else (none))
set_option maxHeartbeats 8000000 in
set_option maxRecDepth 100000 in
theorem slices_Clone_Posting.calls (A0 : Option Addr) (c0 : Nat) (l0 : List (S128)) (r : List (S128)) (w : World) (hr0 : Kd.C k128 w A0 l0.length l0) (hc0 : l0.length ≤ c0) (h : slices_Clone_Posting.f l0 = some r) :
    Calls Try.prog 156 #[.slice A0 l0.length c0] w fun e w' => ∃ v0_ : Value, e = .returned (v0_) ∧ Kd.R k128 128 w' w.heap.size (fun _ => True) v0_ r ∧ Below w.heap.size w w' := by
  have HN_ : A0 = none → l0 = [] := fun e_ => by
    subst e_
    by_cases z_ : 0 < l0.length
    · obtain ⟨a_, h_, _⟩ := hr0.2.2 z_
      cases h_
    · exact List.eq_nil_of_length_eq_zero (by omega)
  cases A0 with
  | none =>
    have hl_ := HN_ rfl
    subst hl_
    have hq_ := fun (w : World) (n_ : Nat) => Go.Lib.run_eql_slice_nil (P := Try.prog) w 50 128 none n_ c0 0 0 Try.underlying50
    have hr_ : r = [] := by
      simp only [slices_Clone_Posting.f] at h
      (repeat (split at h)) <;> first | (cases h; rfl) | (simp at h; done) | (simp at h; exact h.symm) | (simp at h; exact h)
    subst hr_
    go_enter Try.func156, Try.ntmps156
    go_wp2
    go_ret
    exact ⟨_, rfl, Kd.R_nil _ _ _ _ _, Below.refl _ _⟩
  | some ad0_ =>
    have hq_ := fun (w : World) => Go.Lib.run_eql_slice_nil (P := Try.prog) w 50 128 (some ad0_) l0.length c0 0 0 Try.underlying50
    have HR0 := Aside0.mk hr0
    have HC0 := Aside0.mk hc0
    clear hr0 hc0
    have HB := Aside0.mk (Below.refl w.heap.size w)
    have H : ((some (([] : List (S128)) : List (S128))).bind fun y111 => (if y111.length + l0.length < 4398046511104 then (some (y111 ++ l0)) else (none))) = some r := h
    clear h
    obtain ⟨y111, hy111⟩ : ∃ y_ : List (S128), y_ = (([] : List (S128))) := ⟨_, rfl⟩
    replace H : (if y111.length + l0.length < 4398046511104 then (some (y111 ++ l0)) else (none)) = some r := by first | (rw [hy111]; with_reducible exact H) | (have H2_ := (Option.bind_some _ _).symm.trans H; rw [hy111]; with_reducible exact H2_) | (have H2_ := (Option.bind_some _ _).symm.trans H; with_reducible exact H2_) | with_reducible exact H | (rw [hy111]; exact H) | exact H
    have Ny111 := Aside0.mk hy111
    clear hy111
    by_cases c2 : y111.length + l0.length < 4398046511104
    · rw [if_pos c2] at H
      have LMc2 := Aside0.mk c2
      clear c2
      obtain ⟨y114, hy114⟩ : ∃ y_ : List (S128), y_ = (y111 ++ l0) := ⟨_, rfl⟩
      replace H : (some y114) = some r := by first | (rw [hy114]; with_reducible exact H) | (have H2_ := (Option.bind_some _ _).symm.trans H; rw [hy114]; with_reducible exact H2_) | (have H2_ := (Option.bind_some _ _).symm.trans H; with_reducible exact H2_) | with_reducible exact H | (rw [hy114]; exact H) | exact H
      have Ny114 := Aside0.mk hy114
      clear hy114
      obtain rfl := Option.some.inj H
      go_enter Try.func156, Try.ntmps156
      go_wp2_with (first | ((with_reducible refine gate_dst (N := 5) rfl ?_); refine Kd.R_lit k128 _ 128 ?hg (N := 5) ?hd (xs := ([] : List (S128))) (inner := []) (ok := fun _ => True) (okp := fun _ => True) ?hr ?hp (fun _ hk => hk) trivial (Below.refl _ _) (Nat.le_refl _) (by simp) ?_; (case hd => rfl); (case hg => rfl); (case hr => first | (go_simp; done) | (go_simp; rfl)); (case hp => exact (Reps.none _ _)); intro v112 w3 ho4 hb hg_ hnew_; clear hg_ hnew_; (first | rw [← Ny111.out] at ho4 | (simp only [Int.reduceToNat] at ho4; rw [← Ny111.out] at ho4)); have n0_ := Aside0.mk (Kd.R_lower ho4 (below_size (by repeat (first | (with_reducible first | exact HB.out | apply below_alloc | apply pw_below_drewN | apply below_drew1) | exact HB.out)))); have n1_ := Aside0.mk (below_step (by repeat (first | (with_reducible first | exact HB.out | apply below_alloc | apply pw_below_drewN | apply below_drew1) | exact HB.out)) hb); clear HB; have HO113 := n0_; have HB := n1_; clear n0_ n1_; clear hb ho4) | ((with_reducible refine gate_builtin (b := .append) (xs := #[.tmp 5, .tmp 6]) rfl ?_); at_builtin; refine Kd.R_append_rows k128 (w0 := w) w.heap.size rfl (.tmp 5) (.tmp 6) 50 128 (.agg #[(.string ⟨#[]⟩), (.int .i64 0), (.int .i64 0)]) 32 rfl Try.underlying50 info128 rfl (by decide) (by omega) v112 y111 l0 _ _ _ (fun _ => True) (fun _ => False) rfl rfl ?aO ?aR (fun _ _ h => h) (fun _ h => h.elim) ?aF ?aB ?aS ?aL ?_; (case aR => repeat (first | exact (Kd.C_below HR0.out HB.out) | (with_reducible refine Kd.C_alloc ?_ _) | (with_reducible refine Kd.C_drewN ?_ _) | (with_reducible refine Kd.C_drew ?_))); (case aB => exact (by repeat (first | (with_reducible first | exact HB.out | apply below_alloc | apply pw_below_drewN | apply below_drew1) | exact HB.out))); (case aF => exact (fun _ _ => trivial)); (case aO => exact (by (with_reducible repeat (first | apply Kd.R_alloc | apply Kd.R_drewN | apply Kd.R_drew)); exact HO113.out)); (case aS => exact (below_size (by repeat (first | (with_reducible first | exact HB.out | apply below_alloc | apply pw_below_drewN | apply below_drew1) | exact HB.out)))); (case aL => have := LMc2.out; omega); intro v115 w5 ho hb hg hat; rw [← Ny114.out] at ho; have n0_ := Aside0.mk (hb); have n1_ := Aside0.mk (ho); clear HB; clear HO113; have HB := n0_; have HO116 := n1_; clear n0_ n1_; clear ho hb hg hat))
      go_ret
      exact ⟨_, by first | rfl | (simp [errW_none, errW_some] <;> rfl) | (simp [*, errW_none, errW_some] <;> rfl), by (with_reducible repeat (first | apply Kd.R_alloc | apply Kd.R_drewN | apply Kd.R_drew)); exact HO116.out, by repeat (first | (with_reducible first | exact HB.out | apply below_alloc | apply pw_below_drewN | apply below_drew1) | exact HB.out)⟩
    · rw [if_neg c2] at H
      exact absurd H (by simp)

/- slices_overlaps_Posting: told with what calls it -/
/- slices_Reverse_Posting: told with what calls it -/
/- slices_rotateLeft_Posting: told with what calls it -/
/- slices_rotateRight_Posting: told with what calls it -/
/-! ### slices.Insert: what its steps do to rows of one's own, over any program -/
theorem run_copyK {P : Program} (w : World) (dT sT ty elem : TypeId) (k g o dLen dCap : Nat) (a : Addr) (sLen sCap : Nat) (cur : Array Value) (t : TypeId) (cs : List Value)
    (hu : P.underlying dT = some (.slice elem)) (hs : (P.info? elem).map (·.size) = some k)
    (hg : w.heap[g]? = some (.cells cur t (0, 0))) (hn : cs.length = Nat.min sLen dLen * k)
    (hsrc : ∀ j v, cs[j]? = some v → w.cell? (a.add j) = some v) (hfit : o + cs.length ≤ cur.size) (h1 : ∀ v ∈ cs, v.oneCell' = true) :
    (Builtin.copy_ #[dT, sT] ty #[.slice (some ⟨g, o, none⟩) dLen dCap, .slice (some a) sLen sCap]).run P w =
      .ok (goInt (Nat.min sLen dLen)) (w.setRow g (cur.toList.take o ++ cs ++ cur.toList.drop (o + cs.length)).toArray) := by
  have hl := run_loadCells_list (P := P) w a cs hsrc
  have hst := run_storeCells_at P g o t cs 0 cur w hg (by simpa using hfit) h1
  cases hq : P.info? elem with
  | none => simp [hq] at hs
  | some i =>
    have hi : i.size = k := by simpa [hq] using hs
    simp [Builtin.copy_, run_underlying hu, Builtin.lenOf, Builtin.firstCells, sizeOf, typeInfo, hq, hi, ← hn, hl, hst]
theorem ins_list (cur X : List Value) (A N k : Nat) (hA : A ≤ N) (hN : N + k ≤ cur.length) (hX : X.length = k) (c1 : List Value)
    (h1 : c1 = cur.take (A + k) ++ (cur.take N).drop A ++ cur.drop (A + k + ((cur.take N).drop A).length)) :
    (c1.take A ++ X ++ c1.drop (A + X.length)).take (N + k) = (cur.take N).take A ++ X ++ (cur.take N).drop A ∧ c1.length = cur.length ∧ (c1.take A ++ X ++ c1.drop (A + X.length)).length = cur.length := by
  have hT : ((cur.take N).drop A).length = N - A := by rw [List.length_drop, List.length_take]; omega
  have hc : (cur.take (A + k)).length = A + k := by rw [List.length_take]; omega
  have e1 : c1.take A = cur.take A := by
    rw [h1, List.append_assoc, List.take_append_of_le_length (by omega), List.take_take, Nat.min_eq_left (by omega)]
  have e2 : c1.drop (A + X.length) = (cur.take N).drop A ++ cur.drop (A + k + ((cur.take N).drop A).length) := by
    rw [h1, hX, List.append_assoc, List.drop_append_of_le_length (by omega), List.drop_of_length_le (by omega), List.nil_append]
  have l1 : c1.length = cur.length := by rw [h1]; simp only [List.length_append, hc, hT, List.length_drop]; omega
  refine ⟨?_, l1, ?_⟩
  · rw [e1, e2, List.take_take, Nat.min_eq_left (by omega), ← List.append_assoc]
    exact List.take_left' (by simp only [List.length_append, hT, hX, List.length_take]; omega)
  · simp only [List.length_append, List.length_take, List.length_drop, l1, hX]; omega
theorem ins_new (T1 X T2 Z : List Value) (A k : Nat) (hA : T1.length = A) (hX : X.length = k) (cur c1 c2 : List Value) (hcur : cur = T1 ++ Z) (hZ : k + T2.length ≤ Z.length)
    (h1 : c1 = cur.take A ++ X ++ cur.drop (A + X.length)) (h2 : c2 = c1.take (A + k) ++ T2 ++ c1.drop (A + k + T2.length)) :
    c2.take (A + k + T2.length) = T1 ++ X ++ T2 ∧ c2.length = cur.length ∧ c1.length = cur.length := by
  have e0 : cur.take A = T1 := by rw [hcur]; exact List.take_left' hA
  have e1 : c1.take (A + k) = T1 ++ X := by
    rw [h1, e0]
    exact List.take_left' (by rw [List.length_append]; omega)
  have hl : cur.length = A + Z.length := by rw [hcur, List.length_append, hA]
  have l1 : c1.length = cur.length := by rw [h1, e0]; simp only [List.length_append, List.length_drop]; omega
  refine ⟨?_, ?_, l1⟩
  · rw [h2, e1]
    exact List.take_left' (by simp only [List.length_append]; omega)
  · rw [h2, e1]
    simp only [List.length_append, List.length_drop]
    omega
theorem ownsRow_heap {w w' : World} {b : Nat} {e : TypeId} {k : Nat} {v : Value} {n : Nat} {xs : List Value} (hh : w'.heap = w.heap) (h : w.ownsRow b e k v n xs) : w'.ownsRow b e k v n xs := by
  unfold World.ownsRow at *
  rw [hh]
  exact h
theorem Reps.app {α : Type} {R : α → List Value → Prop} {sz : Nat} {a b : List α} {ca cb : List Value} (h1 : Reps R sz a ca) (h2 : Reps R sz b cb) : Reps R sz (a ++ b) (ca ++ cb) := by
  refine ⟨by rw [List.length_append, h1.1, h2.1, List.length_append, Nat.add_mul], fun j q hq => ?_⟩
  by_cases hj : j < a.length
  · rw [List.getElem?_append_left hj] at hq
    have hle : j * sz + sz ≤ ca.length := by rw [h1.1, ← Nat.succ_mul]; exact Nat.mul_le_mul_right _ hj
    rw [List.drop_append_of_le_length (by omega), List.take_append_of_le_length (by rw [List.length_drop]; omega)]
    exact h1.2 j q hq
  · rw [List.getElem?_append_right (by omega)] at hq
    have e : (ca ++ cb).drop (j * sz) = cb.drop ((j - a.length) * sz) := by
      rw [List.drop_append, List.drop_of_length_le (by rw [h1.1]; exact Nat.mul_le_mul_right _ (by omega)), List.nil_append, h1.1, Nat.sub_mul]
    rw [e]
    exact h2.2 _ q hq
theorem Reps.take_ {α : Type} {R : α → List Value → Prop} {sz : Nat} {a : List α} {ca : List Value} (h : Reps R sz a ca) (i : Nat) (hi : i ≤ a.length) : Reps R sz (a.take i) (ca.take (i * sz)) := by
  have hle : i * sz ≤ ca.length := by rw [h.1]; exact Nat.mul_le_mul_right _ hi
  refine ⟨by rw [List.length_take, List.length_take, Nat.min_eq_left hi, Nat.min_eq_left hle], fun j q hq => ?_⟩
  rw [List.getElem?_take] at hq
  split at hq
  · rename_i hj
    have hle2 : j * sz + sz ≤ i * sz := by rw [← Nat.succ_mul]; exact Nat.mul_le_mul_right _ hj
    rw [List.drop_take, List.take_take, Nat.min_eq_left (by omega)]
    exact h.2 j q hq
  · cases hq
theorem Reps.drop_ {α : Type} {R : α → List Value → Prop} {sz : Nat} {a : List α} {ca : List Value} (h : Reps R sz a ca) (i : Nat) : Reps R sz (a.drop i) (ca.drop (i * sz)) := by
  refine ⟨by rw [List.length_drop, List.length_drop, h.1, Nat.sub_mul], fun j q hq => ?_⟩
  rw [List.getElem?_drop] at hq
  rw [List.drop_drop, ← Nat.add_mul]
  exact h.2 _ q hq
theorem Kd.M_flat {α : Type} {d : Kd α} (hE : d.E = []) {w w1 : World} {b b1 : Nat} {ok ok1 : Nat → Prop} {x : α} {cs : List Value} (h : d.M w b ok x cs) (hb : b1 ≤ b) : d.M w1 b1 ok1 x cs := by
  have h1 : d.M w b (fun _ => False) x cs := d.M_mono (fun k hk => by
    obtain ⟨_, _, _, q, hq, _⟩ := hk
    rw [hE] at hq
    cases hq) (d.M_bound h)
  exact d.M_mono (fun _ hk => hk.elim) (d.M_lower hb (d.M_move (w1 := w1) (fun _ hk => hk.elim) h1))
/-- A row that was written anew: an element put in between. -/
theorem Kd.R_ins {α : Type} {d : Kd α} (hE : d.E = []) {e : Nat} {w w1 : World} {b b2 : Nat} {ok1 ok ok2 : Nat → Prop} {v1 : Value} {xs ys : List α} {inner X : List Value} (i : Nat) (hi : i ≤ xs.length)
    (h0 : Reps (d.M w b ok) d.sz xs inner) (h2 : Reps (d.M w b2 ok2) d.sz ys X) (hb : b ≤ b2) (hok : ∀ k, v1.ownBlock = some k → ok1 k)
    (ho : w1.ownsRow b e d.sz v1 (xs.length + ys.length) (inner.take (i * d.sz) ++ X ++ inner.drop (i * d.sz))) : d.R e w1 b ok1 v1 (xs.take i ++ ys ++ xs.drop i) := by
  refine ⟨hok, inner.take (i * d.sz) ++ X ++ inner.drop (i * d.sz), ?_, ?_⟩
  · have e : (xs.take i ++ ys ++ xs.drop i).length = xs.length + ys.length := by simp only [List.length_append, List.length_take, List.length_drop]; omega
    rw [e]
    exact ho
  · have hr : Reps (d.M w1 b (fun k => ok1 k ∧ some k ≠ v1.ownBlock)) d.sz xs inner := h0.imp_ (fun _ _ hp => Kd.M_flat hE hp (Nat.le_refl _))
    have hr2 : Reps (d.M w1 b (fun k => ok1 k ∧ some k ≠ v1.ownBlock)) d.sz ys X := h2.imp_ (fun _ _ hp => Kd.M_flat hE hp hb)
    exact Reps.app (Reps.app (Reps.take_ hr i hi) hr2) (Reps.drop_ hr i)
theorem Kd.M_ones {α : Type} {d : Kd α} {w : World} {b : Nat} {ok : Nat → Prop} {xs : List α} {inner : List Value} (h0 : Reps (d.M w b ok) d.sz xs inner) (hs : 0 < d.sz) : ∀ u ∈ inner, u.oneCell' = true := by
  intro u hu
  obtain ⟨j, hj, e⟩ := List.getElem_of_mem hu
  have hm : j / d.sz < xs.length := by rw [h0.1] at hj; exact Nat.div_lt_of_lt_mul (by rw [Nat.mul_comm]; exact hj)
  have hk := d.K_one (d.K_of_M (h0.2 (j / d.sz) _ (List.getElem?_eq_getElem hm)))
  refine hk u ?_
  rw [List.mem_iff_getElem?]
  refine ⟨j % d.sz, ?_⟩
  have := Nat.mod_lt j hs
  rw [List.getElem?_take, if_pos this, List.getElem?_drop, Nat.mul_comm, Nat.div_add_mod, List.getElem?_eq_getElem hj, e]
theorem step_copy_runQ {P : Program} {ops : Array Oper} {o : Oper} {a : Act} {w : World} {K : Act → World → Prop} {Q : Exit → Act → World → Prop} {E : Prop}
    (hg : o.guard = none) (d x : Operand) (dT sT : TypeId) (hop : o.op = Op.call { callee := Callee.builtin Builtin.copy, args := #[d, x], argTypes := #[dT, sT] })
    (v u : Value) (hd : a.eval d = v) (hx : a.eval x = u) {v' : Value} {w' : World} (hr : (Builtin.copy_ #[dT, sT] o.type #[v, u]).run P w = .ok v' w') (hK : K (a.put o.dst v') w') :
    if Region.wanted o (yielded ops a.tmps) = true then Oper.wp P o a w K Q else E := by
  have hw : Region.wanted o (yielded ops a.tmps) = true := by simp [Region.wanted, hg]
  rw [if_pos hw]
  unfold Oper.wp
  simp [execOp, hop, resolve, invoke, builtin, hd, hx, hr, Result.andThen]
  exact hK
/-! ### slices_Insert_Posting: function 157 (slices.Insert, one element put in), with slices.overlaps (184) -/
def slices_Insert_Posting.f (l0 : List (S128)) (a1 : Int) (l2 : List (S128)) : Option (List (S128)) := if (0 ≤ a1 ∧ a1 ≤ (l0.length : Int) ∧ l2.length = 1 ∧ l0.length ≤ 1000000) then some (l0.take a1.toNat ++ l2 ++ l0.drop a1.toNat) else none
set_option maxHeartbeats 8000000 in
set_option maxRecDepth 100000 in
theorem slices_Insert_Posting_end (w : World) (base b2 : Nat) (v0 : Value) (n : Nat) (inner X : List Value) (h0 : w.ownsRow base 128 3 v0 n inner) (g2 c2 : Nat) (h2 : w.ownsRow b2 128 3 (.slice (some ⟨g2, 0, none⟩) 1 c2) 1 X) (h1v : ∀ u ∈ X, u.oneCell' = true) (hn : n ≤ 1000000) (hbase : base ≤ w.heap.size) :
    Calls Try.prog 157 #[v0, .int .i64 n, .slice (some ⟨g2, 0, none⟩) 1 c2] w fun e w' => ∃ v', e = .returned v' ∧ w'.ownsRow base 128 3 v' (n + 1) (inner.take (n * 3) ++ X ++ inner.drop (n * 3)) ∧ w.grownBy w' v0.ownBlock ∧ (v'.ownBlock = v0.ownBlock ∨ v'.ownBlock = some w.heap.size) := by
  obtain ⟨i0, hi0, hz0, hzs, hzb⟩ := info_parts info128
  have hnews := h2.cells (g := g2) rfl
  obtain ⟨v1, w1, hr, ho, hg, _, hat⟩ := run_append_own_at (P := Try.prog) w base 50 50 128 i0 ((.agg #[(.string ⟨#[]⟩), (.int .i64 0), (.int .i64 0)])) 3 32 Try.underlying50 hi0 hz0 hzs hzb rfl (by omega) v0 n inner h0 ⟨g2, 0, none⟩ 1 c2 X (by rw [h2.1]) hnews h1v (by unfold maxLen; omega) (by omega) hbase
  have HR := Aside0.mk hr
  have HO := Aside0.mk ho
  have HG := Aside0.mk hg
  have HA := Aside0.mk hat
  have e1 : inner.take (n * 3) ++ X ++ inner.drop (n * 3) = inner ++ X := by
    have := h0.1
    rw [List.take_of_length_le (by omega), List.drop_of_length_le (by omega), List.append_nil]
  rw [e1]
  have hc2 : (1 : Nat) ≤ c2 := by
    rcases h2.2 with ⟨h, _⟩ | ⟨g', cap', cur', hv, _, _, hnc, _⟩
    · cases h
    · injection hv with _ _ hc
      omega
  rcases h0.2 with ⟨rfl, rfl⟩ | ⟨g, cap, cur, rfl, hb, hh, hnc, hcm, _⟩
  · clear hr ho hg hat hnews h0 h2 e1 hi0 hz0 hzs hzb
    go_enter Try.func157, Try.ntmps157
    go_wp2_with (at_builtin; refine Lib.wpList_append_run _ rfl _ _ _ _ rfl _ _ rfl rfl _ _ HR.out ?_)
    go_ret
    exact ⟨v1, rfl, HO.out, HG.out, HA.out⟩
  · clear hr ho hg hat hnews h0 h2 e1 hi0 hz0 hzs hzb hh
    have hcm' : cap ≤ 9223372036854775807 := by unfold maxLen at hcm; omega
    clear hcm
    go_enter Try.func157, Try.ntmps157
    go_wp2_with (at_builtin; refine Lib.wpList_append_run _ rfl _ _ _ _ rfl _ _ rfl rfl _ _ HR.out ?_)
    all_goals (go_ret; exact ⟨v1, rfl, HO.out, HG.out, HA.out⟩)
set_option maxHeartbeats 8000000 in
set_option maxRecDepth 100000 in
theorem slices_Insert_Posting_shift (w : World) (base b2 : Nat) (g cap n i : Nat) (cur : Array Value) (X : List Value) (hh : w.heap[g]? = some (.cells cur 128 (0, 0))) (hb : base ≤ g) (hnc : n + 1 ≤ cap) (hcm : cap ≤ maxLen) (hcs : cur.size = cap * 3)
    (h1c : ∀ u ∈ cur.toList.take (n * 3), u.oneCell' = true) (hi : i < n) (hn : n ≤ 1000000) (g2 c2 : Nat) (h2 : w.ownsRow b2 128 3 (.slice (some ⟨g2, 0, none⟩) 1 c2) 1 X) (h1v : ∀ u ∈ X, u.oneCell' = true) (hne : g2 ≠ g) :
    Calls Try.prog 157 #[.slice (some ⟨g, 0, none⟩) n cap, .int .i64 i, .slice (some ⟨g2, 0, none⟩) 1 c2] w fun e w' => ∃ v', e = .returned v' ∧ w'.ownsRow base 128 3 v' (n + 1) ((cur.toList.take (n * 3)).take (i * 3) ++ X ++ (cur.toList.take (n * 3)).drop (i * 3)) ∧ w.grownBy w' (some g) ∧ (v'.ownBlock = some g ∨ v'.ownBlock = some w.heap.size) := by
  obtain ⟨i0, hi0, hz0, hzs, hzb⟩ := info_parts info128
  have hnews := h2.cells (g := g2) rfl
  have hsz : (Try.prog.info? 128).map (·.size) = some 3 := by rw [hi0]; simp [hzs]
  obtain ⟨cur2, hh2⟩ : ∃ cur2, w.heap[g2]? = some (.cells cur2 128 (0, 0)) := own_typed h2 g2 rfl
  have hX : X.length = 3 := by rw [h2.1]
  have hcz : cur2.size ≠ 0 := by
    rcases h2.2 with ⟨h, _⟩ | ⟨g', cap', cur', hv, _, hg', hnc', _, hcs', _⟩
    · cases h
    · injection hv with ha _ _
      injection ha with ha
      injection ha with ha
      subst ha
      rw [hh2] at hg'
      injection hg' with hg'
      injection hg' with hg'
      subst hg'
      omega
  have hsa : w.shape? g2 = some (128, cur2.size) := by simp [World.shape?, hh2]
  have hsb : w.shape? g = some (128, cur.size) := by simp [World.shape?, hh]
  have hfa : w.frozen? ⟨g2, 0, none⟩ = false := blk_frozen hh2 _
  have hfe : w.frozen? ⟨g2, cur2.size, none⟩ = false := blk_frozen hh2 _
  have hov : ∀ (o lb cb : Nat), (callFunc 184 #[.slice (some ⟨g2, 0, none⟩) 1 c2, .slice (some ⟨g, o, none⟩) lb cb]).run Try.prog w = .ok (.value (.bool false)) w := fun o lb cb => by
    rw [run_callFunc_extern Try.func184 (by kernel_rfl) (by kernel_rfl) (by kernel_rfl) (e := Extern.SlicesOverlaps.overlaps #[50, 50] #[4]) (by kernel_rfl),
      Lib.run_overlaps_apart w 50 4 128 Try.underlying50 3 (fun w => by simp [sizeOf, typeInfo, hi0, hzs]) ⟨g2, 0, none⟩ ⟨g, o, none⟩ 1 c2 lb cb hne 128 128 cur2.size cur.size hsa hsb (by omega) hfa hfe]
    rfl
  have hcl : cur.toList.length = cap * 3 := by rw [Array.length_toList, hcs]
  obtain ⟨T2, hT2⟩ : ∃ T2, T2 = (cur.toList.take (n * 3)).drop (i * 3) := ⟨_, rfl⟩
  have hTl : T2.length = (n - i) * 3 := by rw [hT2, List.length_drop, List.length_take]; omega
  have hTc : ∀ j v, T2[j]? = some v → w.cell? ⟨g, i * 3 + j, none⟩ = some v := fun j v hj => by
    rw [hT2, List.getElem?_drop, List.getElem?_take] at hj
    split at hj
    · rw [cell_of_row w g _ cur 128 (0, 0) hh, ← Array.getElem?_toList]
      exact hj
    · cases hj
  obtain ⟨L1, hL1⟩ : ∃ L1, L1 = cur.toList.take (i * 3 + 3) ++ (cur.toList.take (n * 3)).drop (i * 3) ++ cur.toList.drop (i * 3 + 3 + ((cur.toList.take (n * 3)).drop (i * 3)).length) := ⟨_, rfl⟩
  obtain ⟨hf1, hf2, hf3⟩ := ins_list cur.toList X (i * 3) (n * 3) 3 (by omega) (by omega) hX L1 hL1
  obtain ⟨W1, hW1⟩ : ∃ W1, W1 = w.drew.setRow g L1.toArray := ⟨_, rfl⟩
  have hg1 : W1.heap[g]? = some (.cells L1.toArray 128 (0, 0)) := by rw [hW1]; exact setRow_heap w.drew g cur _ 128 _ hh
  have hcp1 : ∀ ty dc sc, (Builtin.copy_ #[50, 50] ty #[.slice (some ⟨g, (i + 1) * 3, none⟩) (n - i) dc, .slice (some ⟨g, i * 3, none⟩) (n + 1 - i) sc]).run Try.prog w.drew = .ok (goInt (Nat.min (n + 1 - i) (n - i))) W1 := fun ty dc sc => by
    rw [hW1, hL1, ← hT2, run_copyK (P := Try.prog) w.drew 50 50 ty 128 3 g ((i + 1) * 3) (n - i) dc ⟨g, i * 3, none⟩ (n + 1 - i) sc cur 128 T2 Try.underlying50 hsz hh (by rw [hTl, show Nat.min (n + 1 - i) (n - i) = n - i by simp only [Nat.min_def]; split <;> omega]) (fun j v hj => by rw [Addr.add_lit]; exact hTc j v hj) (by omega) (fun v hv => h1c v (by rw [hT2] at hv; exact List.mem_of_mem_drop hv))]
    rw [show (i + 1) * 3 = i * 3 + 3 by omega]
  obtain ⟨W2, hW2⟩ : ∃ W2, W2 = W1.setRow g (L1.take (i * 3) ++ X ++ L1.drop (i * 3 + X.length)).toArray := ⟨_, rfl⟩
  have hcp2 : ∀ ty dc, (Builtin.copy_ #[50, 50] ty #[.slice (some ⟨g, i * 3, none⟩) (n + 1 - i) dc, .slice (some ⟨g2, 0, none⟩) 1 c2]).run Try.prog W1 = .ok (goInt (Nat.min 1 (n + 1 - i))) W2 := fun ty dc => by
    rw [hW2, run_copyK (P := Try.prog) W1 50 50 ty 128 3 g (i * 3) (n + 1 - i) dc ⟨g2, 0, none⟩ 1 c2 L1.toArray 128 X Try.underlying50 hsz hg1 (by rw [hX, show Nat.min 1 (n + 1 - i) = 1 by simp only [Nat.min_def]; split <;> omega]) (fun j v hj => by
      have h3 := hnews j v hj
      rw [hW1]
      exact (World.cell?_of_block (by rw [add_block]; exact setRow_other w.drew g g2 _ hne)).trans h3) (by simp only [List.size_toArray]; omega) h1v]
  have hg2 : W2.heap[g]? = some (.cells (L1.take (i * 3) ++ X ++ L1.drop (i * 3 + X.length)).toArray 128 (0, 0)) := by rw [hW2]; exact setRow_heap W1 g _ _ 128 _ hg1
  have FIN := Aside0.mk (show ∀ W : World, W.heap = W2.heap → W.os = W2.os → W.tape = W2.tape → W.output = W2.output → W.ownsRow base 128 3 (.slice (some ⟨g, 0, none⟩) (n + 1) cap) (n + 1) ((cur.toList.take (n * 3)).take (i * 3) ++ X ++ (cur.toList.take (n * 3)).drop (i * 3)) ∧ w.grownBy W (some g) from by
    intro W e1 e2 e3 e4
    have hs : w.heap.size = W.heap.size := by rw [e1, hW2, hW1]; simp
    refine ⟨⟨?_, .inr ⟨g, cap, _, rfl, hb, by rw [e1]; exact hg2, hnc, hcm, by simp only [List.size_toArray]; omega, ?_⟩⟩, ⟨by rw [e2, hW2, hW1]; rfl, by rw [e3, hW2, hW1]; rfl, by rw [e4, hW2, hW1]; rfl, by omega, fun k hk hkg => ?_⟩⟩
    · simp only [List.length_append, List.length_take, List.length_drop]; omega
    · rw [show (n + 1) * 3 = n * 3 + 3 by omega]
      exact hf1
    · have hkg' : k ≠ g := fun e => hkg (by rw [e])
      rw [e1, hW2, setRow_other W1 g k _ hkg', hW1, setRow_other w.drew g k _ hkg']
      rfl)
  have hcm' : cap ≤ 9223372036854775807 := by unfold maxLen at hcm; omega
  have HC1 := Aside0.mk hcp1
  have HC2 := Aside0.mk hcp2
  have HV := Aside0.mk hov
  have hw1 : IntKind.i64.wrap ((i : Int) + 1) = (i : Int) + 1 := by rw [IntKind.wrap_i64]; omega
  have hz2 : ¬ ((i : Int) = (n : Int)) := by omega
  have hb1 : (0 : Int) ≤ (i : Int) + 1 := by omega
  have htn : ((i : Int) + 1).toNat = i + 1 := by omega
  have hb2 : ¬ (cap = i + 1) := by omega
  have hb3 : (i : Int) ≤ (n : Int) + 1 := by omega
  have hb4 : ¬ (cap = i) := by omega
  have hin : i ≤ n := by omega
  have hv0 := hov
  clear hh hnews hi0 hz0 hzs hzb hsz hh2 hX hcz hsa hsb hfa hfe hcl hT2 hTl hTc hL1 hf1 hf2 hf3 hW1 hg1 hcp1 hW2 hcp2 hg2 h1c h1v h2 hcs hb hcm
  go_enter Try.func157, Try.ntmps157
  go_wp2_with (simp only [hv0])
  go_region_law (refine step_copy_runQ rfl _ _ 50 50 rfl (.slice (some ⟨g, (i + 1) * 3, none⟩) (n - i) (cap - (i + 1))) (.slice (some ⟨g, i * 3, none⟩) (n + 1 - i) (cap - i)) (by simp [Act.eval, Act.put]) (by simp [Act.eval, Act.put]) (HC1.out _ _ _) ?_)
  go_wp2_with (simp only [HC2.out])
  go_ret
  exact ⟨_, rfl, (FIN.out _ rfl rfl rfl rfl).1, (FIN.out _ rfl rfl rfl rfl).2, .inl rfl⟩
set_option maxHeartbeats 8000000 in
set_option maxRecDepth 100000 in
theorem slices_Insert_Posting_grow (w : World) (base b2 : Nat) (g cap n i : Nat) (cur : Array Value) (X : List Value) (hh : w.heap[g]? = some (.cells cur 128 (0, 0))) (hnc : n ≤ cap) (hroom : cap < n + 1) (hcm : cap ≤ maxLen) (hcs : cur.size = cap * 3)
    (h1c : ∀ u ∈ cur.toList.take (n * 3), u.oneCell' = true) (hi : i < n) (hn : n ≤ 1000000) (g2 c2 : Nat) (h2 : w.ownsRow b2 128 3 (.slice (some ⟨g2, 0, none⟩) 1 c2) 1 X) (h1v : ∀ u ∈ X, u.oneCell' = true) (hbase : base ≤ w.heap.size) :
    Calls Try.prog 157 #[.slice (some ⟨g, 0, none⟩) n cap, .int .i64 i, .slice (some ⟨g2, 0, none⟩) 1 c2] w fun e w' => ∃ v', e = .returned v' ∧ w'.ownsRow base 128 3 v' (n + 1) ((cur.toList.take (n * 3)).take (i * 3) ++ X ++ (cur.toList.take (n * 3)).drop (i * 3)) ∧ w.grownBy w' (some g) ∧ (v'.ownBlock = some g ∨ v'.ownBlock = some w.heap.size) := by
  obtain ⟨i0, hi0, hz0, hzs, hzb⟩ := info_parts info128
  have hnews := h2.cells (g := g2) rfl
  have hsz : (Try.prog.info? 128).map (·.size) = some 3 := by rw [hi0]; simp [hzs]
  have hX : X.length = 3 := by rw [h2.1]
  have hgw : g < w.heap.size := (Array.getElem?_eq_some_iff.1 hh).1
  have hg2w : g2 < w.heap.size := (h2.lt g2 rfl).2
  have hcl : cur.toList.length = cap * 3 := by rw [Array.length_toList, hcs]
  obtain ⟨T1, hT1⟩ : ∃ T1, T1 = (cur.toList.take (n * 3)).take (i * 3) := ⟨_, rfl⟩
  obtain ⟨T2, hT2⟩ : ∃ T2, T2 = (cur.toList.take (n * 3)).drop (i * 3) := ⟨_, rfl⟩
  have hT1l : T1.length = i * 3 := by rw [hT1, List.length_take, List.length_take]; omega
  have hTl : T2.length = (n - i) * 3 := by rw [hT2, List.length_drop, List.length_take]; omega
  have hcell : ∀ j v, (cur.toList.take (n * 3))[j]? = some v → w.cell? ⟨g, j, none⟩ = some v := fun j v hj => by
    rw [List.getElem?_take] at hj
    split at hj
    · rw [cell_of_row w g _ cur 128 (0, 0) hh, ← Array.getElem?_toList]
      exact hj
    · cases hj
  have hTc : ∀ j v, T2[j]? = some v → w.cell? ⟨g, i * 3 + j, none⟩ = some v := fun j v hj => hcell _ v (by rwa [hT2, List.getElem?_drop] at hj)
  have hold : (Builtin.firstCells i0.size i (.slice (some ⟨g, 0, none⟩) i cap)).run Try.prog w.drew = .ok T1.toArray w.drew := by
    rw [hzs]
    exact run_firstCells_some w.drew 3 i ⟨g, 0, none⟩ i cap T1 (by rw [hT1l]) (fun j v hj => by
      rw [Addr.add_lit, Nat.zero_add]
      rw [hT1, List.getElem?_take] at hj
      split at hj
      · exact hcell j v hj
      · cases hj)
  have hkk : (n : Int) + 1 - (i : Int) = ((n + 1 - i : Nat) : Int) := by omega
  have hik : i + (n + 1 - i) = n + 1 := by omega
  obtain ⟨G, hG⟩ : ∃ G, G = grownCap w (n + 1) cap 128 := ⟨_, rfl⟩
  have hGn : n + 1 ≤ G := by rw [hG]; exact grownCap_ge w _ _ _
  have hGm : G ≤ maxLen := by rw [hG]; exact grownCap_le_maxLen w (n + 1) cap 128 (by unfold maxLen; omega)
  obtain ⟨ROW, hROW⟩ : ∃ ROW : Array Value, ROW = T1.toArray ++ Builtin.zeroCells (((.agg #[(.string ⟨#[]⟩), (.int .i64 0), (.int .i64 0)])) : Value).cells (n + 1 - i) ++ Builtin.zeroCells (((.agg #[(.string ⟨#[]⟩), (.int .i64 0), (.int .i64 0)])) : Value).cells (G - (n + 1)) := ⟨_, rfl⟩
  have hrz : ∀ ty, (Builtin.append_ #[50, 3] ty #[.slice (some ⟨g, 0, none⟩) i cap, .int .i64 ((n : Int) + 1 - (i : Int))]).run Try.prog w = .ok (.slice (some ⟨w.heap.size, 0, none⟩) (n + 1) G) (w.drew.alloc (.cells ROW 128)) := fun ty => by
    have h := Lib.run_append_grow_zeros w 50 3 ty 128 i0 _ .i64 .i64 Try.underlying50 Try.underlying3 hi0 hz0 (some ⟨g, 0, none⟩) i cap T1 hold (n + 1 - i) (by omega) (by omega) (by omega) (by omega) (by rw [hzb]; omega) (by rw [hzb, hik]; exact growslice_fits hroom (by omega))
    rw [hik, ← hG, ← hROW] at h
    rw [hkk]
    exact h
  have hz3 : (Builtin.zeroCells (((.agg #[(.string ⟨#[]⟩), (.int .i64 0), (.int .i64 0)])) : Value).cells (n + 1 - i)).size = (n + 1 - i) * 3 := size_zeroCells _ _
  have hz4 : (Builtin.zeroCells (((.agg #[(.string ⟨#[]⟩), (.int .i64 0), (.int .i64 0)])) : Value).cells (G - (n + 1))).size = (G - (n + 1)) * 3 := size_zeroCells _ _
  have hRs : ROW.size = G * 3 := by rw [hROW, Array.size_append, Array.size_append, hz3, hz4, List.size_toArray, hT1l]; omega
  obtain ⟨Z, hZ⟩ : ∃ Z, Z = (Builtin.zeroCells (((.agg #[(.string ⟨#[]⟩), (.int .i64 0), (.int .i64 0)])) : Value).cells (n + 1 - i) ++ Builtin.zeroCells (((.agg #[(.string ⟨#[]⟩), (.int .i64 0), (.int .i64 0)])) : Value).cells (G - (n + 1))).toList := ⟨_, rfl⟩
  have hRl : ROW.toList = T1 ++ Z := by rw [hROW, hZ, Array.append_assoc, Array.toList_append]
  have hZl : Z.length = (n + 1 - i) * 3 + (G - (n + 1)) * 3 := by rw [hZ, Array.length_toList, Array.size_append, hz3, hz4]
  clear hROW
  obtain ⟨N, hN⟩ : ∃ N, N = w.heap.size := ⟨_, rfl⟩
  obtain ⟨W0, hW0⟩ : ∃ W0, W0 = w.drew.alloc (.cells ROW 128) := ⟨_, rfl⟩
  have h00 : W0.heap[N]? = some (.cells ROW 128 (0, 0)) := by rw [hW0, hN]; exact heap_alloc_new w.drew _
  have h0o : ∀ k, k < w.heap.size → W0.heap[k]? = w.heap[k]? := fun k hk => by rw [hW0]; first | exact heap_alloc_old w.drew _ k hk | exact heap_alloc_old w.drew _ hk
  rw [← hN, ← hW0] at hrz
  obtain ⟨L1, hL1⟩ : ∃ L1, L1 = ROW.toList.take (i * 3) ++ X ++ ROW.toList.drop (i * 3 + X.length) := ⟨_, rfl⟩
  obtain ⟨L2, hL2⟩ : ∃ L2, L2 = L1.take (i * 3 + 3) ++ T2 ++ L1.drop (i * 3 + 3 + T2.length) := ⟨_, rfl⟩
  obtain ⟨hf1, hf2, hf3⟩ := ins_new T1 X T2 Z (i * 3) 3 hT1l hX ROW.toList L1 L2 hRl (by omega) hL1 hL2
  have hRtl : ROW.toList.length = G * 3 := by rw [Array.length_toList, hRs]
  obtain ⟨W1, hW1⟩ : ∃ W1, W1 = W0.setRow N L1.toArray := ⟨_, rfl⟩
  have h11 : W1.heap[N]? = some (.cells L1.toArray 128 (0, 0)) := by rw [hW1]; exact setRow_heap W0 N _ _ 128 _ h00
  have hcp1 : ∀ ty dc, (Builtin.copy_ #[50, 50] ty #[.slice (some ⟨N, i * 3, none⟩) (n + 1 - i) dc, .slice (some ⟨g2, 0, none⟩) 1 c2]).run Try.prog W0 = .ok (goInt (Nat.min 1 (n + 1 - i))) W1 := fun ty dc => by
    rw [hW1, hL1, run_copyK (P := Try.prog) W0 50 50 ty 128 3 N (i * 3) (n + 1 - i) dc ⟨g2, 0, none⟩ 1 c2 ROW 128 X Try.underlying50 hsz h00 (by rw [hX, show Nat.min 1 (n + 1 - i) = 1 by simp only [Nat.min_def]; split <;> omega]) (fun j v hj => by
      have h3 := hnews j v hj
      exact (World.cell?_of_block (by rw [add_block]; exact h0o g2 hg2w)).trans h3) (by omega) h1v]
  obtain ⟨W2, hW2⟩ : ∃ W2, W2 = W1.drew.setRow N L2.toArray := ⟨_, rfl⟩
  have hcp2 : ∀ ty dc sc, (Builtin.copy_ #[50, 50] ty #[.slice (some ⟨N, (i + 1) * 3, none⟩) (n - i) dc, .slice (some ⟨g, i * 3, none⟩) (n - i) sc]).run Try.prog W1.drew = .ok (goInt (Nat.min (n - i) (n - i))) W2 := fun ty dc sc => by
    rw [hW2, hL2, show (i + 1) * 3 = i * 3 + 3 by omega, run_copyK (P := Try.prog) W1.drew 50 50 ty 128 3 N (i * 3 + 3) (n - i) dc ⟨g, i * 3, none⟩ (n - i) sc L1.toArray 128 T2 Try.underlying50 hsz h11 (by rw [hTl, show Nat.min (n - i) (n - i) = n - i by simp only [Nat.min_def]; split <;> omega]) (fun j v hj => by
      rw [Addr.add_lit, hW1]
      refine (World.cell?_of_block (w := w) ?_).trans (hTc j v hj)
      show (W0.setRow N L1.toArray).heap[g]? = w.heap[g]?
      rw [setRow_other W0 N g _ (by omega)]
      exact h0o g hgw) (by simp only [List.size_toArray]; omega) (fun v hv => h1c v (by rw [hT2] at hv; exact List.mem_of_mem_drop hv))]
  have h22 : W2.heap[N]? = some (.cells L2.toArray 128 (0, 0)) := by rw [hW2]; exact setRow_heap W1.drew N _ _ 128 _ h11
  have FIN := Aside0.mk (show ∀ W : World, W.heap = W2.heap → W.os = W2.os → W.tape = W2.tape → W.output = W2.output → W.ownsRow base 128 3 (.slice (some ⟨N, 0, none⟩) (n + 1) G) (n + 1) (T1 ++ X ++ T2) ∧ w.grownBy W (some g) from by
    intro W e1 e2 e3 e4
    have hs : w.heap.size ≤ W.heap.size := by
      have : N < W.heap.size := by rw [e1]; exact (Array.getElem?_eq_some_iff.1 h22).1
      omega
    refine ⟨⟨?_, .inr ⟨N, G, _, rfl, by omega, by rw [e1]; exact h22, hGn, hGm, by simp only [List.size_toArray]; omega, ?_⟩⟩, ⟨by rw [e2, hW2, hW1, hW0]; rfl, by rw [e3, hW2, hW1, hW0]; rfl, by rw [e4, hW2, hW1, hW0]; rfl, hs, fun k hk hkg => ?_⟩⟩
    · simp only [List.length_append]; omega
    · have e5 : (n + 1) * 3 = i * 3 + 3 + T2.length := by omega
      rw [e5]
      exact hf1
    · have hkN : k ≠ N := by omega
      rw [e1, hW2, setRow_other W1.drew N k _ hkN]
      show W1.heap[k]? = _
      rw [hW1, setRow_other W0 N k _ hkN]
      exact h0o k hk)
  rw [← hT1, ← hT2, ← hN]
  have hcm' : cap ≤ 9223372036854775807 := by unfold maxLen at hcm; omega
  have hGm' : G ≤ 9223372036854775807 := by unfold maxLen at hGm; omega
  have HC0 := Aside0.mk hrz
  have HC1 := Aside0.mk hcp1
  have HC2 := Aside0.mk hcp2
  have hz2 : ¬ ((i : Int) = (n : Int)) := by omega
  have hz5 : (cap : Int) < (n : Int) + 1 := by omega
  have hw1 : IntKind.i64.wrap ((i : Int) + 1) = (i : Int) + 1 := by rw [IntKind.wrap_i64]; omega
  have hb1 : (0 : Int) ≤ (i : Int) + 1 := by omega
  have htn : ((i : Int) + 1).toNat = i + 1 := by omega
  have hb2 : ¬ (G = i + 1) := by omega
  have hb3 : (i : Int) ≤ (n : Int) := by omega
  have hb4 : ¬ (cap = i) := by omega
  have hb5 : ¬ (G = i) := by omega
  have hin : i ≤ n := by omega
  clear hh hnews hi0 hz0 hzs hzb hsz hX hgw hg2w hcl hT1 hT2 hT1l hTl hcell hTc hold hG hrz hz3 hz4 hRs hZ hRl hZl hN hW0 h00 h0o hL1 hL2 hf1 hf2 hf3 hRtl hW1 h11 hcp1 hW2 hcp2 h22 h1c h1v h2 hcs hcm hGm hbase hkk hik
  go_enter Try.func157, Try.ntmps157
  go_wp2_with (first
    | (at_builtin; refine Lib.wpList_append_run _ rfl _ _ _ _ rfl _ _ rfl rfl _ _ (HC0.out _) ?_)
    | (simp only [HC1.out]))
  go_region_law (refine step_copy_runQ rfl _ _ 50 50 rfl (.slice (some ⟨N, (i + 1) * 3, none⟩) (n - i) (G - (i + 1))) (.slice (some ⟨g, i * 3, none⟩) (n - i) (cap - i)) (by simp [Act.eval, Act.put]) (by simp [Act.eval, Act.put]) (HC2.out _ _ _) ?_)
  go_wp2
  go_ret
  exact ⟨_, rfl, (FIN.out _ rfl rfl rfl rfl).1, (FIN.out _ rfl rfl rfl rfl).2, .inr rfl⟩
set_option maxHeartbeats 8000000 in
theorem slices_Insert_Posting.calls (P0_ : Nat → Prop) (u9000_ : Value) (l0 : List (S128)) (a1 : Int) (P2_ : Nat → Prop) (u9001_ : Value) (l2 : List (S128)) (r : List (S128)) (w0 w : World) (hB : Below w0.heap.size w0 w) (ho0 : Kd.R k128 128 w w0.heap.size P0_ u9000_ l0) (hp0_2 : ∀ k_, P0_ k_ → ¬ P2_ k_) (ho2 : Kd.R k128 128 w w0.heap.size P2_ u9001_ l2) (hp2_0 : ∀ k_, P2_ k_ → ¬ P0_ k_) (h : slices_Insert_Posting.f l0 a1 l2 = some r) :
    Calls Try.prog 157 #[u9000_, .int .i64 a1, u9001_] w fun e w' => ∃ v0_ : Value, e = .returned (v0_) ∧ Kd.R k128 128 w' w0.heap.size (fun k_ => ((P0_ k_ ∨ P2_ k_) ∨ w.heap.size ≤ k_)) v0_ r ∧ Below w0.heap.size w0 w' ∧ Kept w w' (fun k_ => P0_ k_ ∨ P2_ k_) := by
  have hb0 : 0 ≤ a1 ∧ a1 ≤ (l0.length : Int) ∧ l2.length = 1 ∧ l0.length ≤ 1000000 := by
    by_cases c : 0 ≤ a1 ∧ a1 ≤ (l0.length : Int) ∧ l2.length = 1 ∧ l0.length ≤ 1000000
    · exact c
    · rw [slices_Insert_Posting.f, if_neg c] at h
      cases h
  rw [slices_Insert_Posting.f, if_pos hb0] at h
  obtain rfl := Option.some.inj h
  obtain ⟨q0, q1, q2, q3⟩ := hb0
  obtain ⟨i, rfl⟩ : ∃ i : Nat, a1 = (i : Int) := ⟨a1.toNat, by omega⟩
  obtain ⟨hP0, inner, hown, hrep⟩ := ho0
  obtain ⟨hP2, X, hown2, hrep2⟩ := ho2
  have hge : w0.heap.size ≤ w.heap.size := below_size hB
  have h1c := Kd.M_ones hrep (by decide)
  have h1v := Kd.M_ones hrep2 (by decide)
  rw [q2] at hown2
  rw [Int.toNat_natCast]
  have key : Calls Try.prog 157 #[u9000_, .int .i64 i, u9001_] w fun e w' => ∃ v', e = .returned v' ∧ w'.ownsRow w0.heap.size 128 3 v' (l0.length + 1) (inner.take (i * 3) ++ X ++ inner.drop (i * 3)) ∧ w.grownBy w' u9000_.ownBlock ∧ (v'.ownBlock = u9000_.ownBlock ∨ v'.ownBlock = some w.heap.size) := by
    have hform2 : ∃ g2 c2, u9001_ = .slice (some ⟨g2, 0, none⟩) 1 c2 := by
      rcases hown2.2 with ⟨_, h⟩ | ⟨g2, c2, _, hv, _⟩
      · cases h
      · exact ⟨g2, c2, hv⟩
    obtain ⟨g2, c2, rfl⟩ := hform2
    by_cases ci : i = l0.length
    · subst ci
      exact slices_Insert_Posting_end w w0.heap.size _ u9000_ l0.length inner X hown g2 c2 hown2 h1v q3 hge
    · have ho' := hown
      rcases ho'.2 with ⟨_, h⟩ | ⟨g, cap, cur, rfl, hb, hh, hnc, hcm, hcs, ht⟩
      · exact absurd h (by omega)
      · have hne : g2 ≠ g := fun e => hp0_2 g (hP0 g rfl) (e ▸ hP2 g2 rfl)
        have ht' : cur.toList.take (l0.length * 3) = inner := ht
        rw [← ht']
        rw [← ht'] at h1c
        by_cases cr : l0.length + 1 ≤ cap
        · exact slices_Insert_Posting_shift w w0.heap.size _ g cap l0.length i cur X hh hb cr hcm hcs h1c (by omega) q3 g2 c2 hown2 h1v hne
        · exact slices_Insert_Posting_grow w w0.heap.size _ g cap l0.length i cur X hh hnc (by omega) hcm hcs h1c (by omega) q3 g2 c2 hown2 h1v hge
  refine key.mono ?_
  rintro e w' ⟨v', rfl, ho, hg, hat⟩
  refine ⟨v', rfl, Kd.R_ins (d := k128) rfl i (by omega) hrep hrep2 (Nat.le_refl _) ?_ (by rw [q2]; exact ho), hB.grown hg hge (fun k e => own_base hown k e), Kept.of_grown hg (Kept.refl w _) (fun k e => .inl (by first | exact .inl (hP0 k e) | exact hP0 k e))⟩
  intro k hk
  rcases hat with h | h
  · exact .inl (by first | exact .inl (hP0 k (h ▸ hk)) | exact hP0 k (h ▸ hk))
  · rw [h] at hk
    exact .inr (by have := Option.some.inj hk; omega)

/-! ### impl_withPostings: function 103 -/
mutual
def impl_withPostings.l0 : Nat → List (S128) → List (S128) → Int → Int → Option ((List (S128)) × Int)
  | 0, _, _, _, _ => none
  | k + 1, x6, x12, x13, x14 => if x14 < x13 then (if 0 ≤ x14 then (if x14 < (x12.length : Int) then (impl_withPostings.l1 k x6 (x6.length : Int) x12 x13 x14 ((rd_T128 x12 x14).f0) ((rd_T128 x12 x14).f1) ((rd_T128 x12 x14).f2)) else (none)) else (none)) else (if (x6.length : Int) > 32 then (some (([] : List (S128)), 5)) else (some (x6, 0)))
def impl_withPostings.l1 : Nat → List (S128) → Int → List (S128) → Int → Int → ByteArray → Int → Int → Option ((List (S128)) × Int)
  | 0, _, _, _, _, _, _, _, _ => none
  | k + 1, x6, x9, x12, x13, x14, x125000, x125001, x125002 => if x9 > 0 then (if 0 ≤ (wrap64 (x9 - 1)) then (if (wrap64 (x9 - 1)) < (x6.length : Int) then (if ((rd_T128 x6 (wrap64 (x9 - 1))).f2) > x125002 then (impl_withPostings.l1 k x6 (wrap64 (x9 - 1)) x12 x13 x14 x125000 x125001 x125002) else ((slices_Insert_Posting.f x6 x9 (([(⟨x125000, x125001, x125002⟩ : S128)] : List (S128)))).bind fun t129 => (impl_withPostings.l0 k t129 x12 x13 (wrap64 (x14 + 1))))) else (none)) else (none)) else ((slices_Insert_Posting.f x6 x9 (([(⟨x125000, x125001, x125002⟩ : S128)] : List (S128)))).bind fun t135 => (impl_withPostings.l0 k t135 x12 x13 (wrap64 (x14 + 1))))
end
def impl_withPostings.f (k : Nat) (l0 : List (S128)) (l1 : List (S128)) : Option ((List (S128)) × Int) := (slices_Clone_Posting.f l0).bind fun t120 => (impl_withPostings.l0 k t120 l1 (l1.length : Int) 0)
theorem impl_withPostings.mono_l : ∀ k, (∀ y0 y1 y2 y3, LeO (impl_withPostings.l0 k y0 y1 y2 y3) (impl_withPostings.l0 (k + 1) y0 y1 y2 y3)) ∧ (∀ y0 y1 y2 y3 y4 y5 y6 y7, LeO (impl_withPostings.l1 k y0 y1 y2 y3 y4 y5 y6 y7) (impl_withPostings.l1 (k + 1) y0 y1 y2 y3 y4 y5 y6 y7))
  | 0 => ⟨fun _ _ _ _ r h => by simp [impl_withPostings.l0] at h, fun _ _ _ _ _ _ _ _ r h => by simp [impl_withPostings.l1] at h⟩
  | k + 1 => by
    obtain ⟨ih0, ih1⟩ := impl_withPostings.mono_l k
    refine ⟨?_, ?_⟩
    · intro y0 y1 y2 y3
      unfold impl_withPostings.l0
      repeat' first
      | (with_reducible exact ih0 _ _ _ _)
      | (with_reducible exact ih1 _ _ _ _ _ _ _ _)
      | (with_reducible exact LeO.refl _)
      | (with_reducible exact LeO.none _)
      | (with_reducible refine LeO.ite ?_ ?_)
      | (with_reducible refine LeO.bind ?_ (fun _ => ?_))
      | exact ih0 _ _ _ _
      | exact ih1 _ _ _ _ _ _ _ _
      | exact LeO.none _
      | refine LeO.ite ?_ ?_
      | refine LeO.bind ?_ (fun _ => ?_)
    · intro y0 y1 y2 y3 y4 y5 y6 y7
      unfold impl_withPostings.l1
      repeat' first
      | (with_reducible exact ih0 _ _ _ _)
      | (with_reducible exact ih1 _ _ _ _ _ _ _ _)
      | (with_reducible exact LeO.refl _)
      | (with_reducible exact LeO.none _)
      | (with_reducible refine LeO.ite ?_ ?_)
      | (with_reducible refine LeO.bind ?_ (fun _ => ?_))
      | exact ih0 _ _ _ _
      | exact ih1 _ _ _ _ _ _ _ _
      | exact LeO.none _
      | refine LeO.ite ?_ ?_
      | refine LeO.bind ?_ (fun _ => ?_)
theorem impl_withPostings.mono : ∀ a0 a1 k, LeO (impl_withPostings.f k a0 a1) (impl_withPostings.f (k + 1) a0 a1) := by
  intro a0 a1 k
  obtain ⟨ih0, ih1⟩ := impl_withPostings.mono_l k
  unfold impl_withPostings.f
  repeat' first
      | (with_reducible exact ih0 _ _ _ _)
      | (with_reducible exact ih1 _ _ _ _ _ _ _ _)
      | (with_reducible exact LeO.refl _)
      | (with_reducible exact LeO.none _)
      | (with_reducible refine LeO.ite ?_ ?_)
      | (with_reducible refine LeO.bind ?_ (fun _ => ?_))
      | exact ih0 _ _ _ _
      | exact ih1 _ _ _ _ _ _ _ _
      | exact LeO.none _
      | refine LeO.ite ?_ ?_
      | refine LeO.bind ?_ (fun _ => ?_)
set_option maxHeartbeats 8000000 in
set_option maxRecDepth 100000 in
theorem impl_withPostings.calls (k : Nat) (A0 : Option Addr) (c0 : Nat) (l0 : List (S128)) (A1 : Option Addr) (c1 : Nat) (l1 : List (S128)) (r1 : List (S128)) (r2 : Int) (w : World) (hr0 : Kd.C k128 w A0 l0.length l0) (hc0 : l0.length ≤ c0) (hr1 : Kd.C k128 w A1 l1.length l1) (hc1 : l1.length ≤ c1) (h : impl_withPostings.f k l0 l1 = some (r1, r2)) :
    Calls Try.prog 103 #[.slice A0 l0.length c0, .slice A1 l1.length c1] w fun e w' => ∃ v0_ : Value, e = .returned (.tuple #[v0_, .int .i64 r2]) ∧ Kd.R k128 128 w' w.heap.size (fun _ => True) v0_ r1 ∧ Below w.heap.size w w' := by
  have hu128 := Try.underlying128
  have HR0 := Aside0.mk hr0
  have HC0 := Aside0.mk hc0
  clear hr0 hc0
  have HR1 := Aside0.mk hr1
  have HC1 := Aside0.mk hc1
  clear hr1 hc1
  have HB := Aside0.mk (Below.refl w.heap.size w)
  have H : ((slices_Clone_Posting.f l0).bind fun t120 => (impl_withPostings.l0 k t120 l1 (l1.length : Int) 0)) = some (r1, r2) := h
  clear h
  replace H := Option.bind_eq_some_iff.mp H
  obtain ⟨t120, A30, H⟩ := H
  replace H : (impl_withPostings.l0 k t120 l1 (l1.length : Int) 0) = some (r1, r2) := H
  have A3 := Aside0.mk A30
  clear A30
  have H' := Aside0.mk H
  clear H
  go_enter Try.func103, Try.ntmps103
  go_wp2_with (first | (go_at_call 156; (first | (with_reducible refine (slices_Clone_Posting.calls _ _ l0 t120 _ ?side1 ?side2 A3.out).mono ?_) | ((try simp only [Go.IntWalk.i64_left]); (with_reducible refine (slices_Clone_Posting.calls _ _ l0 t120 _ ?side1 ?side2 A3.out).mono ?_))); (case side1 => repeat (first | exact HR0.out | (with_reducible refine Kd.C_alloc ?_ _) | (with_reducible refine Kd.C_drewN ?_ _) | (with_reducible refine Kd.C_drew ?_))); (case side2 => exact HC0.out); rintro e w4 ⟨v121, rfl, ho0, hb⟩; have n0_ := Aside0.mk (Kd.R_lower ho0 (below_size (by repeat (first | (with_reducible first | exact HB.out | apply below_alloc | apply pw_below_drewN | apply below_drew1) | exact HB.out)))); have n1_ := Aside0.mk (below_step (by repeat (first | (with_reducible first | exact HB.out | apply below_alloc | apply pw_below_drewN | apply below_drew1) | exact HB.out)) hb); clear HB; have HO122 := n0_; have HB := n1_; clear n0_ n1_; (try clear hb); (try clear hb2); (try clear hk); (try clear hi); (try clear ho0)))
  repeat (go_quiet (first | (go_at_call 156; (first | (with_reducible refine (slices_Clone_Posting.calls _ _ l0 t120 _ ?side1 ?side2 A3.out).mono ?_) | ((try simp only [Go.IntWalk.i64_left]); (with_reducible refine (slices_Clone_Posting.calls _ _ l0 t120 _ ?side1 ?side2 A3.out).mono ?_))); (case side1 => repeat (first | exact HR0.out | (with_reducible refine Kd.C_alloc ?_ _) | (with_reducible refine Kd.C_drewN ?_ _) | (with_reducible refine Kd.C_drew ?_))); (case side2 => exact HC0.out); rintro e w4 ⟨v121, rfl, ho0, hb⟩; have n0_ := Aside0.mk (Kd.R_lower ho0 (below_size (by repeat (first | (with_reducible first | exact HB.out | apply below_alloc | apply pw_below_drewN | apply below_drew1) | exact HB.out)))); have n1_ := Aside0.mk (below_step (by repeat (first | (with_reducible first | exact HB.out | apply below_alloc | apply pw_below_drewN | apply below_drew1) | exact HB.out)) hb); clear HB; have HO122 := n0_; have HB := n1_; clear n0_ n1_; (try clear hb); (try clear hb2); (try clear hk); (try clear hi); (try clear ho0))); try go_wp2_with (first | (go_at_call 156; (first | (with_reducible refine (slices_Clone_Posting.calls _ _ l0 t120 _ ?side1 ?side2 A3.out).mono ?_) | ((try simp only [Go.IntWalk.i64_left]); (with_reducible refine (slices_Clone_Posting.calls _ _ l0 t120 _ ?side1 ?side2 A3.out).mono ?_))); (case side1 => repeat (first | exact HR0.out | (with_reducible refine Kd.C_alloc ?_ _) | (with_reducible refine Kd.C_drewN ?_ _) | (with_reducible refine Kd.C_drew ?_))); (case side2 => exact HC0.out); rintro e w4 ⟨v121, rfl, ho0, hb⟩; have n0_ := Aside0.mk (Kd.R_lower ho0 (below_size (by repeat (first | (with_reducible first | exact HB.out | apply below_alloc | apply pw_below_drewN | apply below_drew1) | exact HB.out)))); have n1_ := Aside0.mk (below_step (by repeat (first | (with_reducible first | exact HB.out | apply below_alloc | apply pw_below_drewN | apply below_drew1) | exact HB.out)) hb); clear HB; have HO122 := n0_; have HB := n1_; clear n0_ n1_; (try clear hb); (try clear hb2); (try clear hk); (try clear hi); (try clear ho0))))
  go_loopg [6, 14] k (fun kq v6 v14 w' => ∃ (x6_1 : List (S128)) (x14_1 : Int), v14 = .int .i64 x14_1 ∧ Aside0 (impl_withPostings.l0 kq x6_1 l1 (l1.length : Int) x14_1 = some (r1, r2)) ∧ Aside0 (kq ≤ k) ∧ Aside0 (Kd.R k128 128 w' w.heap.size (fun _ => True) v6 x6_1) ∧ Aside0 (Below w.heap.size w w'))
  case atStart => exact ⟨(t120), (0), (by first | rfl | (simp; done) | (simp [*]; done)), H', ⟨Nat.le_refl _⟩, ⟨by (with_reducible repeat (first | apply Kd.R_alloc | apply Kd.R_drewN | apply Kd.R_drew)); exact HO122.out⟩, ⟨by repeat (first | (with_reducible first | exact HB.out | apply below_alloc | apply pw_below_drewN | apply below_drew1) | exact HB.out)⟩⟩
  case round =>
    clear H'
    try clear c1
    try clear p2
    obtain ⟨x6_1, x14_1, rfl, HA, HK1, HO_6, HB⟩ := hrel
    cases gk with
    | zero => exact absurd HA.out (by simp [impl_withPostings.l0])
    | succ k1 =>
      have H := HA.out
      clear HA
      simp only [impl_withPostings.l0] at H
      by_cases c5 : x14_1 < (l1.length : Int)
      · rw [if_pos c5] at H
        have c5b0 : decide (x14_1 < (l1.length : Int)) = true := decide_eq_true c5
        clear c5
        by_cases c6 : 0 ≤ x14_1
        · rw [if_pos c6] at H
          have c6b0 : decide (0 ≤ x14_1) = true := decide_eq_true c6
          clear c6
          by_cases c7 : x14_1 < (l1.length : Int)
          · rw [if_pos c7] at H
            have c7b0 : decide (x14_1 < (l1.length : Int)) = true := decide_eq_true c7
            clear c7
            have H' := Aside0.mk H
            clear H
            have p123 : 0 ≤ (x14_1 : Int) := of_decide_eq_true (by first | (with_reducible assumption) | assumption)
            have q123 : x14_1 < (l1.length : Int) := of_decide_eq_true (by first | (with_reducible assumption) | assumption)
            obtain ⟨ad123, e123, hx123_0, hx123_1, hx123_2⟩ := at_T128 HR1.out x14_1 p123 q123
            cases e123
            replace hx123_0 := (HB.out.cell (World.block_lt_of_cell? w _ hx123_0)).trans hx123_0
            replace hx123_1 := (HB.out.cell (World.block_lt_of_cell? w _ hx123_1)).trans hx123_1
            replace hx123_2 := (HB.out.cell (World.block_lt_of_cell? w _ hx123_2)).trans hx123_2
            replace p123 := eq_true p123
            replace q123 := eq_true q123
            go_wp2_with (first | ((with_reducible refine gate_dst (N := 8) rfl ?_); refine box_event ?hg (N := 8) ?hd (cs := #[.string (⟨#[]⟩ : ByteArray), .int .i64 0, .int .i64 0]) (t := 128) ?hr ?_; (case hd => rfl); (case hg => rfl); (case hr => first | (go_simp; done) | (go_simp; rfl)); intro gb124 hg w8 hbox hb; have n0_ := Aside0.mk (Kd.R_below (Kd.R_elderB (by (with_reducible repeat (first | apply Kd.R_alloc | apply Kd.R_drewN | apply Kd.R_drew)); exact HO_6.out) gb124 (Nat.le_of_eq hg.symm)) hb); have n1_ := Aside0.mk (below_step (by repeat (first | (with_reducible first | exact HB.out | apply below_alloc | apply pw_below_drewN | apply below_drew1) | exact HB.out)) hb); have n2_ := Aside0.mk (hbox); have n3_ := Aside0.mk ((by rw [hg]; exact (below_size (by repeat (first | (with_reducible first | exact HB.out | apply below_alloc | apply pw_below_drewN | apply below_drew1) | exact HB.out))) : w.heap.size ≤ gb124)); have n4_ := Aside0.mk ((by rw [hg]; exact (below_size (by repeat (first | (with_reducible first | exact HB.out | apply below_alloc | apply pw_below_drewN | apply below_drew1) | exact HB.out))) : w.heap.size ≤ gb124)); clear HO_6; clear HB; have HO_6 := n0_; have HB := n1_; have BK124 := n2_; have GW124 := n3_; have GE124 := n4_; clear n0_ n1_ n2_ n3_ n4_; clear hb hbox hg; have hcz9_0 : w8.cell? ⟨gb124, 0, none⟩ = some (.string (⟨#[]⟩ : ByteArray)) := (blk_cell BK124.out 0).trans rfl; have hcz9_1 : w8.cell? ⟨gb124, 1, none⟩ = some (.int .i64 0) := (blk_cell BK124.out 1).trans rfl; have hcz9_2 : w8.cell? ⟨gb124, 2, none⟩ = some (.int .i64 0) := (blk_cell BK124.out 2).trans rfl; have hfz9_0 := blk_frozen BK124.out 0; have hfz9_1 := blk_frozen BK124.out 1; have hfz9_2 := blk_frozen BK124.out 2; obtain ⟨Ao10, co10, eo10⟩ := Kd.R_slice HO_6.out; subst eo10))
            repeat (go_quiet (first | ((with_reducible refine gate_dst (N := 8) rfl ?_); refine box_event ?hg (N := 8) ?hd (cs := #[.string (⟨#[]⟩ : ByteArray), .int .i64 0, .int .i64 0]) (t := 128) ?hr ?_; (case hd => rfl); (case hg => rfl); (case hr => first | (go_simp; done) | (go_simp; rfl)); intro gb124 hg w8 hbox hb; have n0_ := Aside0.mk (Kd.R_below (Kd.R_elderB (by (with_reducible repeat (first | apply Kd.R_alloc | apply Kd.R_drewN | apply Kd.R_drew)); exact HO_6.out) gb124 (Nat.le_of_eq hg.symm)) hb); have n1_ := Aside0.mk (below_step (by repeat (first | (with_reducible first | exact HB.out | apply below_alloc | apply pw_below_drewN | apply below_drew1) | exact HB.out)) hb); have n2_ := Aside0.mk (hbox); have n3_ := Aside0.mk ((by rw [hg]; exact (below_size (by repeat (first | (with_reducible first | exact HB.out | apply below_alloc | apply pw_below_drewN | apply below_drew1) | exact HB.out))) : w.heap.size ≤ gb124)); have n4_ := Aside0.mk ((by rw [hg]; exact (below_size (by repeat (first | (with_reducible first | exact HB.out | apply below_alloc | apply pw_below_drewN | apply below_drew1) | exact HB.out))) : w.heap.size ≤ gb124)); clear HO_6; clear HB; have HO_6 := n0_; have HB := n1_; have BK124 := n2_; have GW124 := n3_; have GE124 := n4_; clear n0_ n1_ n2_ n3_ n4_; clear hb hbox hg; have hcz9_0 : w8.cell? ⟨gb124, 0, none⟩ = some (.string (⟨#[]⟩ : ByteArray)) := (blk_cell BK124.out 0).trans rfl; have hcz9_1 : w8.cell? ⟨gb124, 1, none⟩ = some (.int .i64 0) := (blk_cell BK124.out 1).trans rfl; have hcz9_2 : w8.cell? ⟨gb124, 2, none⟩ = some (.int .i64 0) := (blk_cell BK124.out 2).trans rfl; have hfz9_0 := blk_frozen BK124.out 0; have hfz9_1 := blk_frozen BK124.out 1; have hfz9_2 := blk_frozen BK124.out 2; obtain ⟨Ao10, co10, eo10⟩ := Kd.R_slice HO_6.out; subst eo10)); try go_wp2_with (first | ((with_reducible refine gate_dst (N := 8) rfl ?_); refine box_event ?hg (N := 8) ?hd (cs := #[.string (⟨#[]⟩ : ByteArray), .int .i64 0, .int .i64 0]) (t := 128) ?hr ?_; (case hd => rfl); (case hg => rfl); (case hr => first | (go_simp; done) | (go_simp; rfl)); intro gb124 hg w8 hbox hb; have n0_ := Aside0.mk (Kd.R_below (Kd.R_elderB (by (with_reducible repeat (first | apply Kd.R_alloc | apply Kd.R_drewN | apply Kd.R_drew)); exact HO_6.out) gb124 (Nat.le_of_eq hg.symm)) hb); have n1_ := Aside0.mk (below_step (by repeat (first | (with_reducible first | exact HB.out | apply below_alloc | apply pw_below_drewN | apply below_drew1) | exact HB.out)) hb); have n2_ := Aside0.mk (hbox); have n3_ := Aside0.mk ((by rw [hg]; exact (below_size (by repeat (first | (with_reducible first | exact HB.out | apply below_alloc | apply pw_below_drewN | apply below_drew1) | exact HB.out))) : w.heap.size ≤ gb124)); have n4_ := Aside0.mk ((by rw [hg]; exact (below_size (by repeat (first | (with_reducible first | exact HB.out | apply below_alloc | apply pw_below_drewN | apply below_drew1) | exact HB.out))) : w.heap.size ≤ gb124)); clear HO_6; clear HB; have HO_6 := n0_; have HB := n1_; have BK124 := n2_; have GW124 := n3_; have GE124 := n4_; clear n0_ n1_ n2_ n3_ n4_; clear hb hbox hg; have hcz9_0 : w8.cell? ⟨gb124, 0, none⟩ = some (.string (⟨#[]⟩ : ByteArray)) := (blk_cell BK124.out 0).trans rfl; have hcz9_1 : w8.cell? ⟨gb124, 1, none⟩ = some (.int .i64 0) := (blk_cell BK124.out 1).trans rfl; have hcz9_2 : w8.cell? ⟨gb124, 2, none⟩ = some (.int .i64 0) := (blk_cell BK124.out 2).trans rfl; have hfz9_0 := blk_frozen BK124.out 0; have hfz9_1 := blk_frozen BK124.out 1; have hfz9_2 := blk_frozen BK124.out 2; obtain ⟨Ao10, co10, eo10⟩ := Kd.R_slice HO_6.out; subst eo10)))
            go_loopg [9] k1 (fun kq v9 w' => ∃ (x9_2 : Int), v9 = .int .i64 x9_2 ∧ Aside0 (impl_withPostings.l1 kq x6_1 x9_2 l1 (l1.length : Int) x14_1 ((rd_T128 l1 x14_1).f0) ((rd_T128 l1 x14_1).f1) ((rd_T128 l1 x14_1).f2) = some (r1, r2)) ∧ Aside0 (kq ≤ k1) ∧ Aside0 (Kd.R k128 128 w' w.heap.size (fun k_ => k_ ≠ gb124) (.slice Ao10 x6_1.length co10) x6_1) ∧ Aside0 (w'.heap[gb124]? = some (.cells #[.string ((rd_T128 l1 x14_1).f0), .int .i64 ((rd_T128 l1 x14_1).f1), .int .i64 ((rd_T128 l1 x14_1).f2)] 128 (0, 0))) ∧ Aside0 (Below w.heap.size w w'))
            case atStart => exact ⟨((x6_1.length : Int)), (by first | rfl | (simp; done) | (simp [*]; done)), H', ⟨Nat.le_refl _⟩, ⟨by (with_reducible repeat (first | apply Kd.R_alloc | apply Kd.R_drewN | apply Kd.R_drew)); exact Kd.R_mono (Kd.R_far (p := ⟨gb124, 2, none⟩) (Kd.R_far (p := ⟨gb124, 1, none⟩) (Kd.R_far (p := ⟨gb124, 0, none⟩) (Kd.R_mono HO_6.out (fun k_ hk => (⟨hk, hk.2⟩ : _ ∧ k_ ≠ gb124))) (fun _ hk => hk.2) (.string ((rd_T128 l1 x14_1).f0))) (fun _ hk => hk.2) (.int .i64 ((rd_T128 l1 x14_1).f1))) (fun _ hk => hk.2) (.int .i64 ((rd_T128 l1 x14_1).f2))) (fun _ hk => hk.1.2)⟩, ⟨by (with_reducible repeat (first | refine blk_drewN ?_ _ | refine blk_drew ?_ | refine blk_alloc ?_ _)); refine blk_put (cs := #[.string ((rd_T128 l1 x14_1).f0), .int .i64 ((rd_T128 l1 x14_1).f1), .int .i64 0]) ?_ 2 _ rfl; (with_reducible repeat (first | refine blk_drewN ?_ _ | refine blk_drew ?_ | refine blk_alloc ?_ _)); refine blk_put (cs := #[.string ((rd_T128 l1 x14_1).f0), .int .i64 0, .int .i64 0]) ?_ 1 _ rfl; (with_reducible repeat (first | refine blk_drewN ?_ _ | refine blk_drew ?_ | refine blk_alloc ?_ _)); refine blk_put (cs := #[.string (⟨#[]⟩ : ByteArray), .int .i64 0, .int .i64 0]) ?_ 0 _ rfl; (with_reducible repeat (first | refine blk_drewN ?_ _ | refine blk_drew ?_ | refine blk_alloc ?_ _)); exact BK124.out⟩, ⟨by repeat (first | (with_reducible first | exact HB.out | apply below_alloc | apply pw_below_drewN | apply below_drew1 | refine below_set ?_ GE124.out) | exact HB.out)⟩⟩
            case round =>
              clear H'
              try clear c1
              try clear p1
              try clear q1
              try clear hx1
              try clear p2
              try clear c5
              try clear c5b0
              try clear c6
              try clear c6b0
              try clear c7
              try clear c7b0
              try clear c10
              try clear hcz9_0
              try clear hcz9_1
              try clear hcz9_2
              try clear hfz9_0
              try clear hfz9_1
              try clear hfz9_2
              try clear hx123_0
              try clear hx123_1
              try clear hx123_2
              try clear p123
              try clear p2
              try clear q123
              obtain ⟨x9_2, rfl, HA, HK2, HO_6, BK124, HB⟩ := hrel
              cases gk with
              | zero => exact absurd HA.out (by simp [impl_withPostings.l1])
              | succ k2 =>
                have H := HA.out
                clear HA
                simp only [impl_withPostings.l1] at H
                by_cases c11 : x9_2 > 0
                · rw [if_pos c11] at H
                  have c11b0 : decide (0 < x9_2) = true := decide_eq_true c11
                  clear c11
                  obtain ⟨ji12, hji12⟩ : ∃ j_ : Int, (wrap64 (x9_2 - 1)) = j_ := ⟨_, rfl⟩
                  replace H : (if 0 ≤ (ji12) then (if (ji12) < (x6_1.length : Int) then (if ((rd_T128 x6_1 (ji12)).f2) > ((rd_T128 l1 x14_1).f2) then (impl_withPostings.l1 k2 x6_1 ji12 l1 (l1.length : Int) x14_1 ((rd_T128 l1 x14_1).f0) ((rd_T128 l1 x14_1).f1) ((rd_T128 l1 x14_1).f2)) else ((slices_Insert_Posting.f x6_1 x9_2 (([(⟨((rd_T128 l1 x14_1).f0), ((rd_T128 l1 x14_1).f1), ((rd_T128 l1 x14_1).f2)⟩ : S128)] : List (S128)))).bind fun t129 => (impl_withPostings.l0 k2 t129 l1 (l1.length : Int) (wrap64 (x14_1 + 1))))) else (none)) else (none)) = some (r1, r2) := by first | (rw [hji12] at H; exact H) | (simp only [hji12] at H ⊢; exact H)
                  have hji12w : (IntKind.i64.wrap (x9_2 - 1)) = ji12 := (i64_w _).trans hji12
                  by_cases c13 : 0 ≤ (ji12)
                  · rw [if_pos c13] at H
                    have c13b0 : decide (0 ≤ (ji12)) = true := decide_eq_true c13
                    clear c13
                    by_cases c14 : (ji12) < (x6_1.length : Int)
                    · rw [if_pos c14] at H
                      have c14b0 : decide ((ji12) < (x6_1.length : Int)) = true := decide_eq_true c14
                      clear c14
                      by_cases c15 : ((rd_T128 x6_1 (ji12)).f2) > ((rd_T128 l1 x14_1).f2)
                      · rw [if_pos c15] at H
                        have c15b0 : decide (((rd_T128 l1 x14_1).f2) < ((rd_T128 x6_1 (ji12)).f2)) = true := decide_eq_true c15
                        clear c15
                        have H' := Aside0.mk H
                        clear H
                        have p125 : 0 ≤ ((ji12) : Int) := of_decide_eq_true (by first | (with_reducible assumption) | assumption)
                        have q125 : (ji12) < (x6_1.length : Int) := of_decide_eq_true (by first | (with_reducible assumption) | assumption)
                        obtain ⟨ad125, e125, hx125_0, hx125_1, hx125_2⟩ := at_T128 (Kd.R_reads' HO_6.out).2.2 (ji12) p125 q125
                        cases e125
                        replace p125 := eq_true p125
                        replace q125 := eq_true q125
                        have hcz16_0 : wr.cell? ⟨gb124, 0, none⟩ = some (.string ((rd_T128 l1 x14_1).f0)) := (blk_cell BK124.out 0).trans rfl
                        have hcz16_1 : wr.cell? ⟨gb124, 1, none⟩ = some (.int .i64 ((rd_T128 l1 x14_1).f1)) := (blk_cell BK124.out 1).trans rfl
                        have hcz16_2 : wr.cell? ⟨gb124, 2, none⟩ = some (.int .i64 ((rd_T128 l1 x14_1).f2)) := (blk_cell BK124.out 2).trans rfl
                        have hfz16_0 := blk_frozen BK124.out 0
                        have hfz16_1 := blk_frozen BK124.out 1
                        have hfz16_2 := blk_frozen BK124.out 2
                        go_wp2
                        repeat (go_quiet (fail); try go_wp2)
                        go_roundg k2
                        case measure => have := HK1.out; have := HK2.out; omega
                        case rel => exact ⟨(ji12), (by first | rfl | (simp; done) | (simp only [← hji12] <;> (first | rfl | simp)) | (simp [*]; done)), H', ⟨by have := HK1.out; have := HK2.out; omega⟩, ⟨by (with_reducible repeat (first | apply Kd.R_alloc | apply Kd.R_drewN | apply Kd.R_drew)); exact HO_6.out⟩, ⟨by (with_reducible repeat (first | refine blk_drewN ?_ _ | refine blk_drew ?_ | refine blk_alloc ?_ _)); exact BK124.out⟩, ⟨by repeat (first | (with_reducible first | exact HB.out | apply below_alloc | apply pw_below_drewN | apply below_drew1 | refine below_set ?_ GE124.out) | exact HB.out)⟩⟩
                      · rw [if_neg c15] at H
                        have c15b0 : decide (((rd_T128 l1 x14_1).f2) < ((rd_T128 x6_1 (ji12)).f2)) = false := decide_eq_false c15
                        clear c15
                        obtain ⟨y126, hy126⟩ : ∃ y_ : List (S128), y_ = (([(⟨((rd_T128 l1 x14_1).f0), ((rd_T128 l1 x14_1).f1), ((rd_T128 l1 x14_1).f2)⟩ : S128)] : List (S128))) := ⟨_, rfl⟩
                        replace H : ((slices_Insert_Posting.f x6_1 x9_2 y126).bind fun t129 => (impl_withPostings.l0 k2 t129 l1 (l1.length : Int) (wrap64 (x14_1 + 1)))) = some (r1, r2) := by first | (rw [hy126]; with_reducible exact H) | (have H2_ := (Option.bind_some _ _).symm.trans H; rw [hy126]; with_reducible exact H2_) | (have H2_ := (Option.bind_some _ _).symm.trans H; with_reducible exact H2_) | with_reducible exact H | (rw [hy126]; exact H) | exact H
                        have Ny126 := Aside0.mk hy126
                        clear hy126
                        replace H := Option.bind_eq_some_iff.mp H
                        obtain ⟨t129, A170, H⟩ := H
                        replace H : (impl_withPostings.l0 k2 t129 l1 (l1.length : Int) (wrap64 (x14_1 + 1))) = some (r1, r2) := H
                        have A17 := Aside0.mk A170
                        clear A170
                        have H' := Aside0.mk H
                        clear H
                        have p125 : 0 ≤ ((ji12) : Int) := of_decide_eq_true (by first | (with_reducible assumption) | assumption)
                        have q125 : (ji12) < (x6_1.length : Int) := of_decide_eq_true (by first | (with_reducible assumption) | assumption)
                        obtain ⟨ad125, e125, hx125_0, hx125_1, hx125_2⟩ := at_T128 (Kd.R_reads' HO_6.out).2.2 (ji12) p125 q125
                        cases e125
                        replace p125 := eq_true p125
                        replace q125 := eq_true q125
                        have hcz18_0 : wr.cell? ⟨gb124, 0, none⟩ = some (.string ((rd_T128 l1 x14_1).f0)) := (blk_cell BK124.out 0).trans rfl
                        have hcz18_1 : wr.cell? ⟨gb124, 1, none⟩ = some (.int .i64 ((rd_T128 l1 x14_1).f1)) := (blk_cell BK124.out 1).trans rfl
                        have hcz18_2 : wr.cell? ⟨gb124, 2, none⟩ = some (.int .i64 ((rd_T128 l1 x14_1).f2)) := (blk_cell BK124.out 2).trans rfl
                        have hfz18_0 := blk_frozen BK124.out 0
                        have hfz18_1 := blk_frozen BK124.out 1
                        have hfz18_2 := blk_frozen BK124.out 2
                        go_wp2_with (first | ((with_reducible refine gate_dst (N := 38) rfl ?_); refine Kd.R_lit k128 _ 128 ?hg (N := 38) ?hd (xs := ([(⟨((rd_T128 l1 x14_1).f0), ((rd_T128 l1 x14_1).f1), ((rd_T128 l1 x14_1).f2)⟩ : S128)] : List (S128))) (inner := [.string ((rd_T128 l1 x14_1).f0), .int .i64 ((rd_T128 l1 x14_1).f1), .int .i64 ((rd_T128 l1 x14_1).f2)]) (ok := fun _ => True) (okp := fun _ => True) ?hr ?hp (fun _ hk => hk) trivial (Below.refl _ _) (Nat.le_refl _) (by simp) ?_; (case hd => rfl); (case hg => rfl); (case hr => first | (go_simp; done) | (go_simp; rfl)); (case hp => exact (Reps.c3 (show Kd.M k128 _ _ _ (⟨((rd_T128 l1 x14_1).f0), ((rd_T128 l1 x14_1).f1), ((rd_T128 l1 x14_1).f2)⟩ : S128) [.string ((rd_T128 l1 x14_1).f0), .int .i64 ((rd_T128 l1 x14_1).f1), .int .i64 ((rd_T128 l1 x14_1).f2)] from (k128_mkM _ _ _ (⟨((rd_T128 l1 x14_1).f0), ((rd_T128 l1 x14_1).f1), ((rd_T128 l1 x14_1).f2)⟩ : S128) )) (Reps.none _ _))); intro v127 w19 ho20 hb hg_ hnew_; clear hg_ hnew_; (first | rw [← Ny126.out] at ho20 | (simp only [Int.reduceToNat] at ho20; rw [← Ny126.out] at ho20)); have n0_ := Aside0.mk (Kd.R_elder' (by (with_reducible repeat (first | apply Kd.R_alloc | apply Kd.R_drewN | apply Kd.R_drew)); exact HO_6.out) (Kd.R_base ho20) hb); have n1_ := Aside0.mk (Kd.R_lower (Kd.R_newB (Kd.R_new' ho20 (Kd.R_lt (by (with_reducible repeat (first | apply Kd.R_alloc | apply Kd.R_drewN | apply Kd.R_drew)); exact HO_6.out))) (g := gb124) (o := .cells #[.string ((rd_T128 l1 x14_1).f0), .int .i64 ((rd_T128 l1 x14_1).f1), .int .i64 ((rd_T128 l1 x14_1).f2)] 128 (0, 0)) (by (with_reducible repeat (first | refine blk_drewN ?_ _ | refine blk_drew ?_ | refine blk_alloc ?_ _)); exact BK124.out)) (below_size (by repeat (first | (with_reducible first | exact HB.out | apply below_alloc | apply pw_below_drewN | apply below_drew1 | refine below_set ?_ GE124.out) | exact HB.out)))); have n2_ := Aside0.mk (blk_below (g := gb124) (o := .cells #[.string ((rd_T128 l1 x14_1).f0), .int .i64 ((rd_T128 l1 x14_1).f1), .int .i64 ((rd_T128 l1 x14_1).f2)] 128 (0, 0)) (by (with_reducible repeat (first | refine blk_drewN ?_ _ | refine blk_drew ?_ | refine blk_alloc ?_ _)); exact BK124.out) hb); have n3_ := Aside0.mk (below_step (by repeat (first | (with_reducible first | exact HB.out | apply below_alloc | apply pw_below_drewN | apply below_drew1 | refine below_set ?_ GE124.out) | exact HB.out)) hb); clear HO_6; clear BK124; clear HB; have HO_6 := n0_; have HO128 := n1_; have BK124 := n2_; have HB := n3_; clear n0_ n1_ n2_ n3_; clear hb ho20; obtain ⟨Ao21, co21, eo21⟩ := Kd.R_slice HO128.out; subst eo21) | (go_at_call 157; (first | (with_reducible refine (slices_Insert_Posting.calls (fun k_ => some k_ = (.slice (some ad125) x6_1.length co10 : Value).ownBlock) (.slice (some ad125) x6_1.length co10) x6_1 x9_2 (fun k_ => some k_ = (.slice Ao21 y126.length co21 : Value).ownBlock) (.slice Ao21 y126.length co21) y126 t129 w _ ?side1 ?side2 ?side3 ?side4 ?side5 A17.out).mono ?_) | ((try simp only [Go.IntWalk.i64_left]); (with_reducible refine (slices_Insert_Posting.calls (fun k_ => some k_ = (.slice (some ad125) x6_1.length co10 : Value).ownBlock) (.slice (some ad125) x6_1.length co10) x6_1 x9_2 (fun k_ => some k_ = (.slice Ao21 y126.length co21 : Value).ownBlock) (.slice Ao21 y126.length co21) y126 t129 w _ ?side1 ?side2 ?side3 ?side4 ?side5 A17.out).mono ?_))); (case side1 => repeat (first | (with_reducible first | exact HB.out | apply below_alloc | apply pw_below_drewN | apply below_drew1 | refine below_set ?_ GE124.out) | exact HB.out)); (case side2 => exact Kd.R_tight rfl HO_6.out); (case side3 => exact fun k_ e_ => (HO_6.out.1 k_ e_.symm).2); (case side4 => exact Kd.R_tight rfl HO128.out); (case side5 => exact fun k_ e_ => (HO128.out.1 k_ e_.symm).1.2); rintro e w22 ⟨v130, rfl, ho0, hb, hkp⟩; have n0_ := Aside0.mk (blk_kept (by (with_reducible repeat (first | refine blk_drewN ?_ _ | refine blk_drew ?_ | refine blk_alloc ?_ _)); exact BK124.out) hkp (fun hs_ => Or.elim hs_ (fun e_ => (fun e_ => (Kd.R_away HO_6.out (fun _ hk => hk.1)) e_) e_) (fun e_ => (fun e_ => (Kd.R_away HO128.out (fun _ hk => hk.2)) e_) e_))); have n1_ := Aside0.mk (Kd.R_mono (ok' := fun k_ => k_ ≠ gb124) ho0 (fun k_ hk_ => Or.elim hk_ (fun hs_ => Or.elim hs_ (fun hs_ => fun e_ => (Kd.R_away HO_6.out (fun _ hk => hk.1)) (by rw [← e_]; exact hs_)) (fun hs_ => fun e_ => (Kd.R_away HO128.out (fun _ hk => hk.2)) (by rw [← e_]; exact hs_))) (fun hn_ => (Kd.freshB (g := gb124) (o := .cells #[.string ((rd_T128 l1 x14_1).f0), .int .i64 ((rd_T128 l1 x14_1).f1), .int .i64 ((rd_T128 l1 x14_1).f2)] 128 (0, 0)) (by (with_reducible repeat (first | refine blk_drewN ?_ _ | refine blk_drew ?_ | refine blk_alloc ?_ _)); exact BK124.out) k_ hn_)))); have n2_ := Aside0.mk (hb); clear BK124; clear HB; clear HO128; clear HO_6; have BK124 := n0_; have HO131 := n1_; have HB := n2_; clear n0_ n1_ n2_; (try clear hb); (try clear hkp); (try clear ho0)))
                        repeat (go_quiet (first | ((with_reducible refine gate_dst (N := 38) rfl ?_); refine Kd.R_lit k128 _ 128 ?hg (N := 38) ?hd (xs := ([(⟨((rd_T128 l1 x14_1).f0), ((rd_T128 l1 x14_1).f1), ((rd_T128 l1 x14_1).f2)⟩ : S128)] : List (S128))) (inner := [.string ((rd_T128 l1 x14_1).f0), .int .i64 ((rd_T128 l1 x14_1).f1), .int .i64 ((rd_T128 l1 x14_1).f2)]) (ok := fun _ => True) (okp := fun _ => True) ?hr ?hp (fun _ hk => hk) trivial (Below.refl _ _) (Nat.le_refl _) (by simp) ?_; (case hd => rfl); (case hg => rfl); (case hr => first | (go_simp; done) | (go_simp; rfl)); (case hp => exact (Reps.c3 (show Kd.M k128 _ _ _ (⟨((rd_T128 l1 x14_1).f0), ((rd_T128 l1 x14_1).f1), ((rd_T128 l1 x14_1).f2)⟩ : S128) [.string ((rd_T128 l1 x14_1).f0), .int .i64 ((rd_T128 l1 x14_1).f1), .int .i64 ((rd_T128 l1 x14_1).f2)] from (k128_mkM _ _ _ (⟨((rd_T128 l1 x14_1).f0), ((rd_T128 l1 x14_1).f1), ((rd_T128 l1 x14_1).f2)⟩ : S128) )) (Reps.none _ _))); intro v127 w19 ho20 hb hg_ hnew_; clear hg_ hnew_; (first | rw [← Ny126.out] at ho20 | (simp only [Int.reduceToNat] at ho20; rw [← Ny126.out] at ho20)); have n0_ := Aside0.mk (Kd.R_elder' (by (with_reducible repeat (first | apply Kd.R_alloc | apply Kd.R_drewN | apply Kd.R_drew)); exact HO_6.out) (Kd.R_base ho20) hb); have n1_ := Aside0.mk (Kd.R_lower (Kd.R_newB (Kd.R_new' ho20 (Kd.R_lt (by (with_reducible repeat (first | apply Kd.R_alloc | apply Kd.R_drewN | apply Kd.R_drew)); exact HO_6.out))) (g := gb124) (o := .cells #[.string ((rd_T128 l1 x14_1).f0), .int .i64 ((rd_T128 l1 x14_1).f1), .int .i64 ((rd_T128 l1 x14_1).f2)] 128 (0, 0)) (by (with_reducible repeat (first | refine blk_drewN ?_ _ | refine blk_drew ?_ | refine blk_alloc ?_ _)); exact BK124.out)) (below_size (by repeat (first | (with_reducible first | exact HB.out | apply below_alloc | apply pw_below_drewN | apply below_drew1 | refine below_set ?_ GE124.out) | exact HB.out)))); have n2_ := Aside0.mk (blk_below (g := gb124) (o := .cells #[.string ((rd_T128 l1 x14_1).f0), .int .i64 ((rd_T128 l1 x14_1).f1), .int .i64 ((rd_T128 l1 x14_1).f2)] 128 (0, 0)) (by (with_reducible repeat (first | refine blk_drewN ?_ _ | refine blk_drew ?_ | refine blk_alloc ?_ _)); exact BK124.out) hb); have n3_ := Aside0.mk (below_step (by repeat (first | (with_reducible first | exact HB.out | apply below_alloc | apply pw_below_drewN | apply below_drew1 | refine below_set ?_ GE124.out) | exact HB.out)) hb); clear HO_6; clear BK124; clear HB; have HO_6 := n0_; have HO128 := n1_; have BK124 := n2_; have HB := n3_; clear n0_ n1_ n2_ n3_; clear hb ho20; obtain ⟨Ao21, co21, eo21⟩ := Kd.R_slice HO128.out; subst eo21) | (go_at_call 157; (first | (with_reducible refine (slices_Insert_Posting.calls (fun k_ => some k_ = (.slice (some ad125) x6_1.length co10 : Value).ownBlock) (.slice (some ad125) x6_1.length co10) x6_1 x9_2 (fun k_ => some k_ = (.slice Ao21 y126.length co21 : Value).ownBlock) (.slice Ao21 y126.length co21) y126 t129 w _ ?side1 ?side2 ?side3 ?side4 ?side5 A17.out).mono ?_) | ((try simp only [Go.IntWalk.i64_left]); (with_reducible refine (slices_Insert_Posting.calls (fun k_ => some k_ = (.slice (some ad125) x6_1.length co10 : Value).ownBlock) (.slice (some ad125) x6_1.length co10) x6_1 x9_2 (fun k_ => some k_ = (.slice Ao21 y126.length co21 : Value).ownBlock) (.slice Ao21 y126.length co21) y126 t129 w _ ?side1 ?side2 ?side3 ?side4 ?side5 A17.out).mono ?_))); (case side1 => repeat (first | (with_reducible first | exact HB.out | apply below_alloc | apply pw_below_drewN | apply below_drew1 | refine below_set ?_ GE124.out) | exact HB.out)); (case side2 => exact Kd.R_tight rfl HO_6.out); (case side3 => exact fun k_ e_ => (HO_6.out.1 k_ e_.symm).2); (case side4 => exact Kd.R_tight rfl HO128.out); (case side5 => exact fun k_ e_ => (HO128.out.1 k_ e_.symm).1.2); rintro e w22 ⟨v130, rfl, ho0, hb, hkp⟩; have n0_ := Aside0.mk (blk_kept (by (with_reducible repeat (first | refine blk_drewN ?_ _ | refine blk_drew ?_ | refine blk_alloc ?_ _)); exact BK124.out) hkp (fun hs_ => Or.elim hs_ (fun e_ => (fun e_ => (Kd.R_away HO_6.out (fun _ hk => hk.1)) e_) e_) (fun e_ => (fun e_ => (Kd.R_away HO128.out (fun _ hk => hk.2)) e_) e_))); have n1_ := Aside0.mk (Kd.R_mono (ok' := fun k_ => k_ ≠ gb124) ho0 (fun k_ hk_ => Or.elim hk_ (fun hs_ => Or.elim hs_ (fun hs_ => fun e_ => (Kd.R_away HO_6.out (fun _ hk => hk.1)) (by rw [← e_]; exact hs_)) (fun hs_ => fun e_ => (Kd.R_away HO128.out (fun _ hk => hk.2)) (by rw [← e_]; exact hs_))) (fun hn_ => (Kd.freshB (g := gb124) (o := .cells #[.string ((rd_T128 l1 x14_1).f0), .int .i64 ((rd_T128 l1 x14_1).f1), .int .i64 ((rd_T128 l1 x14_1).f2)] 128 (0, 0)) (by (with_reducible repeat (first | refine blk_drewN ?_ _ | refine blk_drew ?_ | refine blk_alloc ?_ _)); exact BK124.out) k_ hn_)))); have n2_ := Aside0.mk (hb); clear BK124; clear HB; clear HO128; clear HO_6; have BK124 := n0_; have HO131 := n1_; have HB := n2_; clear n0_ n1_ n2_; (try clear hb); (try clear hkp); (try clear ho0))); try go_wp2_with (first | ((with_reducible refine gate_dst (N := 38) rfl ?_); refine Kd.R_lit k128 _ 128 ?hg (N := 38) ?hd (xs := ([(⟨((rd_T128 l1 x14_1).f0), ((rd_T128 l1 x14_1).f1), ((rd_T128 l1 x14_1).f2)⟩ : S128)] : List (S128))) (inner := [.string ((rd_T128 l1 x14_1).f0), .int .i64 ((rd_T128 l1 x14_1).f1), .int .i64 ((rd_T128 l1 x14_1).f2)]) (ok := fun _ => True) (okp := fun _ => True) ?hr ?hp (fun _ hk => hk) trivial (Below.refl _ _) (Nat.le_refl _) (by simp) ?_; (case hd => rfl); (case hg => rfl); (case hr => first | (go_simp; done) | (go_simp; rfl)); (case hp => exact (Reps.c3 (show Kd.M k128 _ _ _ (⟨((rd_T128 l1 x14_1).f0), ((rd_T128 l1 x14_1).f1), ((rd_T128 l1 x14_1).f2)⟩ : S128) [.string ((rd_T128 l1 x14_1).f0), .int .i64 ((rd_T128 l1 x14_1).f1), .int .i64 ((rd_T128 l1 x14_1).f2)] from (k128_mkM _ _ _ (⟨((rd_T128 l1 x14_1).f0), ((rd_T128 l1 x14_1).f1), ((rd_T128 l1 x14_1).f2)⟩ : S128) )) (Reps.none _ _))); intro v127 w19 ho20 hb hg_ hnew_; clear hg_ hnew_; (first | rw [← Ny126.out] at ho20 | (simp only [Int.reduceToNat] at ho20; rw [← Ny126.out] at ho20)); have n0_ := Aside0.mk (Kd.R_elder' (by (with_reducible repeat (first | apply Kd.R_alloc | apply Kd.R_drewN | apply Kd.R_drew)); exact HO_6.out) (Kd.R_base ho20) hb); have n1_ := Aside0.mk (Kd.R_lower (Kd.R_newB (Kd.R_new' ho20 (Kd.R_lt (by (with_reducible repeat (first | apply Kd.R_alloc | apply Kd.R_drewN | apply Kd.R_drew)); exact HO_6.out))) (g := gb124) (o := .cells #[.string ((rd_T128 l1 x14_1).f0), .int .i64 ((rd_T128 l1 x14_1).f1), .int .i64 ((rd_T128 l1 x14_1).f2)] 128 (0, 0)) (by (with_reducible repeat (first | refine blk_drewN ?_ _ | refine blk_drew ?_ | refine blk_alloc ?_ _)); exact BK124.out)) (below_size (by repeat (first | (with_reducible first | exact HB.out | apply below_alloc | apply pw_below_drewN | apply below_drew1 | refine below_set ?_ GE124.out) | exact HB.out)))); have n2_ := Aside0.mk (blk_below (g := gb124) (o := .cells #[.string ((rd_T128 l1 x14_1).f0), .int .i64 ((rd_T128 l1 x14_1).f1), .int .i64 ((rd_T128 l1 x14_1).f2)] 128 (0, 0)) (by (with_reducible repeat (first | refine blk_drewN ?_ _ | refine blk_drew ?_ | refine blk_alloc ?_ _)); exact BK124.out) hb); have n3_ := Aside0.mk (below_step (by repeat (first | (with_reducible first | exact HB.out | apply below_alloc | apply pw_below_drewN | apply below_drew1 | refine below_set ?_ GE124.out) | exact HB.out)) hb); clear HO_6; clear BK124; clear HB; have HO_6 := n0_; have HO128 := n1_; have BK124 := n2_; have HB := n3_; clear n0_ n1_ n2_ n3_; clear hb ho20; obtain ⟨Ao21, co21, eo21⟩ := Kd.R_slice HO128.out; subst eo21) | (go_at_call 157; (first | (with_reducible refine (slices_Insert_Posting.calls (fun k_ => some k_ = (.slice (some ad125) x6_1.length co10 : Value).ownBlock) (.slice (some ad125) x6_1.length co10) x6_1 x9_2 (fun k_ => some k_ = (.slice Ao21 y126.length co21 : Value).ownBlock) (.slice Ao21 y126.length co21) y126 t129 w _ ?side1 ?side2 ?side3 ?side4 ?side5 A17.out).mono ?_) | ((try simp only [Go.IntWalk.i64_left]); (with_reducible refine (slices_Insert_Posting.calls (fun k_ => some k_ = (.slice (some ad125) x6_1.length co10 : Value).ownBlock) (.slice (some ad125) x6_1.length co10) x6_1 x9_2 (fun k_ => some k_ = (.slice Ao21 y126.length co21 : Value).ownBlock) (.slice Ao21 y126.length co21) y126 t129 w _ ?side1 ?side2 ?side3 ?side4 ?side5 A17.out).mono ?_))); (case side1 => repeat (first | (with_reducible first | exact HB.out | apply below_alloc | apply pw_below_drewN | apply below_drew1 | refine below_set ?_ GE124.out) | exact HB.out)); (case side2 => exact Kd.R_tight rfl HO_6.out); (case side3 => exact fun k_ e_ => (HO_6.out.1 k_ e_.symm).2); (case side4 => exact Kd.R_tight rfl HO128.out); (case side5 => exact fun k_ e_ => (HO128.out.1 k_ e_.symm).1.2); rintro e w22 ⟨v130, rfl, ho0, hb, hkp⟩; have n0_ := Aside0.mk (blk_kept (by (with_reducible repeat (first | refine blk_drewN ?_ _ | refine blk_drew ?_ | refine blk_alloc ?_ _)); exact BK124.out) hkp (fun hs_ => Or.elim hs_ (fun e_ => (fun e_ => (Kd.R_away HO_6.out (fun _ hk => hk.1)) e_) e_) (fun e_ => (fun e_ => (Kd.R_away HO128.out (fun _ hk => hk.2)) e_) e_))); have n1_ := Aside0.mk (Kd.R_mono (ok' := fun k_ => k_ ≠ gb124) ho0 (fun k_ hk_ => Or.elim hk_ (fun hs_ => Or.elim hs_ (fun hs_ => fun e_ => (Kd.R_away HO_6.out (fun _ hk => hk.1)) (by rw [← e_]; exact hs_)) (fun hs_ => fun e_ => (Kd.R_away HO128.out (fun _ hk => hk.2)) (by rw [← e_]; exact hs_))) (fun hn_ => (Kd.freshB (g := gb124) (o := .cells #[.string ((rd_T128 l1 x14_1).f0), .int .i64 ((rd_T128 l1 x14_1).f1), .int .i64 ((rd_T128 l1 x14_1).f2)] 128 (0, 0)) (by (with_reducible repeat (first | refine blk_drewN ?_ _ | refine blk_drew ?_ | refine blk_alloc ?_ _)); exact BK124.out) k_ hn_)))); have n2_ := Aside0.mk (hb); clear BK124; clear HB; clear HO128; clear HO_6; have BK124 := n0_; have HO131 := n1_; have HB := n2_; clear n0_ n1_ n2_; (try clear hb); (try clear hkp); (try clear ho0))))
                        go_roundg k2
                        case measure => have := HK1.out; have := HK2.out; omega
                        case rel => exact ⟨(t129), (wrap64 (x14_1 + 1)), (by first | rfl | (simp; done) | (simp [*]; done)), H', ⟨by have := HK1.out; have := HK2.out; omega⟩, ⟨by (with_reducible repeat (first | apply Kd.R_alloc | apply Kd.R_drewN | apply Kd.R_drew)); exact Kd.R_mono HO131.out (fun _ hk => trivial)⟩, ⟨by repeat (first | (with_reducible first | exact HB.out | apply below_alloc | apply pw_below_drewN | apply below_drew1 | refine below_set ?_ GE124.out) | exact HB.out)⟩⟩
                    · rw [if_neg c14] at H
                      exact absurd H (by simp)
                  · rw [if_neg c13] at H
                    exact absurd H (by simp)
                · rw [if_neg c11] at H
                  have c11b0 : decide (0 < x9_2) = false := decide_eq_false c11
                  clear c11
                  obtain ⟨y132, hy132⟩ : ∃ y_ : List (S128), y_ = (([(⟨((rd_T128 l1 x14_1).f0), ((rd_T128 l1 x14_1).f1), ((rd_T128 l1 x14_1).f2)⟩ : S128)] : List (S128))) := ⟨_, rfl⟩
                  replace H : ((slices_Insert_Posting.f x6_1 x9_2 y132).bind fun t135 => (impl_withPostings.l0 k2 t135 l1 (l1.length : Int) (wrap64 (x14_1 + 1)))) = some (r1, r2) := by first | (rw [hy132]; with_reducible exact H) | (have H2_ := (Option.bind_some _ _).symm.trans H; rw [hy132]; with_reducible exact H2_) | (have H2_ := (Option.bind_some _ _).symm.trans H; with_reducible exact H2_) | with_reducible exact H | (rw [hy132]; exact H) | exact H
                  have Ny132 := Aside0.mk hy132
                  clear hy132
                  replace H := Option.bind_eq_some_iff.mp H
                  obtain ⟨t135, A230, H⟩ := H
                  replace H : (impl_withPostings.l0 k2 t135 l1 (l1.length : Int) (wrap64 (x14_1 + 1))) = some (r1, r2) := H
                  have A23 := Aside0.mk A230
                  clear A230
                  have H' := Aside0.mk H
                  clear H
                  have hcz24_0 : wr.cell? ⟨gb124, 0, none⟩ = some (.string ((rd_T128 l1 x14_1).f0)) := (blk_cell BK124.out 0).trans rfl
                  have hcz24_1 : wr.cell? ⟨gb124, 1, none⟩ = some (.int .i64 ((rd_T128 l1 x14_1).f1)) := (blk_cell BK124.out 1).trans rfl
                  have hcz24_2 : wr.cell? ⟨gb124, 2, none⟩ = some (.int .i64 ((rd_T128 l1 x14_1).f2)) := (blk_cell BK124.out 2).trans rfl
                  have hfz24_0 := blk_frozen BK124.out 0
                  have hfz24_1 := blk_frozen BK124.out 1
                  have hfz24_2 := blk_frozen BK124.out 2
                  go_wp2_with (first | ((with_reducible refine gate_dst (N := 38) rfl ?_); refine Kd.R_lit k128 _ 128 ?hg (N := 38) ?hd (xs := ([(⟨((rd_T128 l1 x14_1).f0), ((rd_T128 l1 x14_1).f1), ((rd_T128 l1 x14_1).f2)⟩ : S128)] : List (S128))) (inner := [.string ((rd_T128 l1 x14_1).f0), .int .i64 ((rd_T128 l1 x14_1).f1), .int .i64 ((rd_T128 l1 x14_1).f2)]) (ok := fun _ => True) (okp := fun _ => True) ?hr ?hp (fun _ hk => hk) trivial (Below.refl _ _) (Nat.le_refl _) (by simp) ?_; (case hd => rfl); (case hg => rfl); (case hr => first | (go_simp; done) | (go_simp; rfl)); (case hp => exact (Reps.c3 (show Kd.M k128 _ _ _ (⟨((rd_T128 l1 x14_1).f0), ((rd_T128 l1 x14_1).f1), ((rd_T128 l1 x14_1).f2)⟩ : S128) [.string ((rd_T128 l1 x14_1).f0), .int .i64 ((rd_T128 l1 x14_1).f1), .int .i64 ((rd_T128 l1 x14_1).f2)] from (k128_mkM _ _ _ (⟨((rd_T128 l1 x14_1).f0), ((rd_T128 l1 x14_1).f1), ((rd_T128 l1 x14_1).f2)⟩ : S128) )) (Reps.none _ _))); intro v133 w25 ho26 hb hg_ hnew_; clear hg_ hnew_; (first | rw [← Ny132.out] at ho26 | (simp only [Int.reduceToNat] at ho26; rw [← Ny132.out] at ho26)); have n0_ := Aside0.mk (Kd.R_elder' (by (with_reducible repeat (first | apply Kd.R_alloc | apply Kd.R_drewN | apply Kd.R_drew)); exact HO_6.out) (Kd.R_base ho26) hb); have n1_ := Aside0.mk (Kd.R_lower (Kd.R_newB (Kd.R_new' ho26 (Kd.R_lt (by (with_reducible repeat (first | apply Kd.R_alloc | apply Kd.R_drewN | apply Kd.R_drew)); exact HO_6.out))) (g := gb124) (o := .cells #[.string ((rd_T128 l1 x14_1).f0), .int .i64 ((rd_T128 l1 x14_1).f1), .int .i64 ((rd_T128 l1 x14_1).f2)] 128 (0, 0)) (by (with_reducible repeat (first | refine blk_drewN ?_ _ | refine blk_drew ?_ | refine blk_alloc ?_ _)); exact BK124.out)) (below_size (by repeat (first | (with_reducible first | exact HB.out | apply below_alloc | apply pw_below_drewN | apply below_drew1 | refine below_set ?_ GE124.out) | exact HB.out)))); have n2_ := Aside0.mk (blk_below (g := gb124) (o := .cells #[.string ((rd_T128 l1 x14_1).f0), .int .i64 ((rd_T128 l1 x14_1).f1), .int .i64 ((rd_T128 l1 x14_1).f2)] 128 (0, 0)) (by (with_reducible repeat (first | refine blk_drewN ?_ _ | refine blk_drew ?_ | refine blk_alloc ?_ _)); exact BK124.out) hb); have n3_ := Aside0.mk (below_step (by repeat (first | (with_reducible first | exact HB.out | apply below_alloc | apply pw_below_drewN | apply below_drew1 | refine below_set ?_ GE124.out) | exact HB.out)) hb); clear HO_6; clear BK124; clear HB; have HO_6 := n0_; have HO134 := n1_; have BK124 := n2_; have HB := n3_; clear n0_ n1_ n2_ n3_; clear hb ho26; obtain ⟨Ao27, co27, eo27⟩ := Kd.R_slice HO134.out; subst eo27) | (go_at_call 157; (first | (with_reducible refine (slices_Insert_Posting.calls (fun k_ => some k_ = (.slice Ao10 x6_1.length co10 : Value).ownBlock) (.slice Ao10 x6_1.length co10) x6_1 x9_2 (fun k_ => some k_ = (.slice Ao27 y132.length co27 : Value).ownBlock) (.slice Ao27 y132.length co27) y132 t135 w _ ?side1 ?side2 ?side3 ?side4 ?side5 A23.out).mono ?_) | ((try simp only [Go.IntWalk.i64_left]); (with_reducible refine (slices_Insert_Posting.calls (fun k_ => some k_ = (.slice Ao10 x6_1.length co10 : Value).ownBlock) (.slice Ao10 x6_1.length co10) x6_1 x9_2 (fun k_ => some k_ = (.slice Ao27 y132.length co27 : Value).ownBlock) (.slice Ao27 y132.length co27) y132 t135 w _ ?side1 ?side2 ?side3 ?side4 ?side5 A23.out).mono ?_))); (case side1 => repeat (first | (with_reducible first | exact HB.out | apply below_alloc | apply pw_below_drewN | apply below_drew1 | refine below_set ?_ GE124.out) | exact HB.out)); (case side2 => exact Kd.R_tight rfl HO_6.out); (case side3 => exact fun k_ e_ => (HO_6.out.1 k_ e_.symm).2); (case side4 => exact Kd.R_tight rfl HO134.out); (case side5 => exact fun k_ e_ => (HO134.out.1 k_ e_.symm).1.2); rintro e w28 ⟨v136, rfl, ho0, hb, hkp⟩; have n0_ := Aside0.mk (blk_kept (by (with_reducible repeat (first | refine blk_drewN ?_ _ | refine blk_drew ?_ | refine blk_alloc ?_ _)); exact BK124.out) hkp (fun hs_ => Or.elim hs_ (fun e_ => (fun e_ => (Kd.R_away HO_6.out (fun _ hk => hk.1)) e_) e_) (fun e_ => (fun e_ => (Kd.R_away HO134.out (fun _ hk => hk.2)) e_) e_))); have n1_ := Aside0.mk (Kd.R_mono (ok' := fun k_ => k_ ≠ gb124) ho0 (fun k_ hk_ => Or.elim hk_ (fun hs_ => Or.elim hs_ (fun hs_ => fun e_ => (Kd.R_away HO_6.out (fun _ hk => hk.1)) (by rw [← e_]; exact hs_)) (fun hs_ => fun e_ => (Kd.R_away HO134.out (fun _ hk => hk.2)) (by rw [← e_]; exact hs_))) (fun hn_ => (Kd.freshB (g := gb124) (o := .cells #[.string ((rd_T128 l1 x14_1).f0), .int .i64 ((rd_T128 l1 x14_1).f1), .int .i64 ((rd_T128 l1 x14_1).f2)] 128 (0, 0)) (by (with_reducible repeat (first | refine blk_drewN ?_ _ | refine blk_drew ?_ | refine blk_alloc ?_ _)); exact BK124.out) k_ hn_)))); have n2_ := Aside0.mk (hb); clear BK124; clear HB; clear HO134; clear HO_6; have BK124 := n0_; have HO137 := n1_; have HB := n2_; clear n0_ n1_ n2_; (try clear hb); (try clear hkp); (try clear ho0)))
                  repeat (go_quiet (first | ((with_reducible refine gate_dst (N := 38) rfl ?_); refine Kd.R_lit k128 _ 128 ?hg (N := 38) ?hd (xs := ([(⟨((rd_T128 l1 x14_1).f0), ((rd_T128 l1 x14_1).f1), ((rd_T128 l1 x14_1).f2)⟩ : S128)] : List (S128))) (inner := [.string ((rd_T128 l1 x14_1).f0), .int .i64 ((rd_T128 l1 x14_1).f1), .int .i64 ((rd_T128 l1 x14_1).f2)]) (ok := fun _ => True) (okp := fun _ => True) ?hr ?hp (fun _ hk => hk) trivial (Below.refl _ _) (Nat.le_refl _) (by simp) ?_; (case hd => rfl); (case hg => rfl); (case hr => first | (go_simp; done) | (go_simp; rfl)); (case hp => exact (Reps.c3 (show Kd.M k128 _ _ _ (⟨((rd_T128 l1 x14_1).f0), ((rd_T128 l1 x14_1).f1), ((rd_T128 l1 x14_1).f2)⟩ : S128) [.string ((rd_T128 l1 x14_1).f0), .int .i64 ((rd_T128 l1 x14_1).f1), .int .i64 ((rd_T128 l1 x14_1).f2)] from (k128_mkM _ _ _ (⟨((rd_T128 l1 x14_1).f0), ((rd_T128 l1 x14_1).f1), ((rd_T128 l1 x14_1).f2)⟩ : S128) )) (Reps.none _ _))); intro v133 w25 ho26 hb hg_ hnew_; clear hg_ hnew_; (first | rw [← Ny132.out] at ho26 | (simp only [Int.reduceToNat] at ho26; rw [← Ny132.out] at ho26)); have n0_ := Aside0.mk (Kd.R_elder' (by (with_reducible repeat (first | apply Kd.R_alloc | apply Kd.R_drewN | apply Kd.R_drew)); exact HO_6.out) (Kd.R_base ho26) hb); have n1_ := Aside0.mk (Kd.R_lower (Kd.R_newB (Kd.R_new' ho26 (Kd.R_lt (by (with_reducible repeat (first | apply Kd.R_alloc | apply Kd.R_drewN | apply Kd.R_drew)); exact HO_6.out))) (g := gb124) (o := .cells #[.string ((rd_T128 l1 x14_1).f0), .int .i64 ((rd_T128 l1 x14_1).f1), .int .i64 ((rd_T128 l1 x14_1).f2)] 128 (0, 0)) (by (with_reducible repeat (first | refine blk_drewN ?_ _ | refine blk_drew ?_ | refine blk_alloc ?_ _)); exact BK124.out)) (below_size (by repeat (first | (with_reducible first | exact HB.out | apply below_alloc | apply pw_below_drewN | apply below_drew1 | refine below_set ?_ GE124.out) | exact HB.out)))); have n2_ := Aside0.mk (blk_below (g := gb124) (o := .cells #[.string ((rd_T128 l1 x14_1).f0), .int .i64 ((rd_T128 l1 x14_1).f1), .int .i64 ((rd_T128 l1 x14_1).f2)] 128 (0, 0)) (by (with_reducible repeat (first | refine blk_drewN ?_ _ | refine blk_drew ?_ | refine blk_alloc ?_ _)); exact BK124.out) hb); have n3_ := Aside0.mk (below_step (by repeat (first | (with_reducible first | exact HB.out | apply below_alloc | apply pw_below_drewN | apply below_drew1 | refine below_set ?_ GE124.out) | exact HB.out)) hb); clear HO_6; clear BK124; clear HB; have HO_6 := n0_; have HO134 := n1_; have BK124 := n2_; have HB := n3_; clear n0_ n1_ n2_ n3_; clear hb ho26; obtain ⟨Ao27, co27, eo27⟩ := Kd.R_slice HO134.out; subst eo27) | (go_at_call 157; (first | (with_reducible refine (slices_Insert_Posting.calls (fun k_ => some k_ = (.slice Ao10 x6_1.length co10 : Value).ownBlock) (.slice Ao10 x6_1.length co10) x6_1 x9_2 (fun k_ => some k_ = (.slice Ao27 y132.length co27 : Value).ownBlock) (.slice Ao27 y132.length co27) y132 t135 w _ ?side1 ?side2 ?side3 ?side4 ?side5 A23.out).mono ?_) | ((try simp only [Go.IntWalk.i64_left]); (with_reducible refine (slices_Insert_Posting.calls (fun k_ => some k_ = (.slice Ao10 x6_1.length co10 : Value).ownBlock) (.slice Ao10 x6_1.length co10) x6_1 x9_2 (fun k_ => some k_ = (.slice Ao27 y132.length co27 : Value).ownBlock) (.slice Ao27 y132.length co27) y132 t135 w _ ?side1 ?side2 ?side3 ?side4 ?side5 A23.out).mono ?_))); (case side1 => repeat (first | (with_reducible first | exact HB.out | apply below_alloc | apply pw_below_drewN | apply below_drew1 | refine below_set ?_ GE124.out) | exact HB.out)); (case side2 => exact Kd.R_tight rfl HO_6.out); (case side3 => exact fun k_ e_ => (HO_6.out.1 k_ e_.symm).2); (case side4 => exact Kd.R_tight rfl HO134.out); (case side5 => exact fun k_ e_ => (HO134.out.1 k_ e_.symm).1.2); rintro e w28 ⟨v136, rfl, ho0, hb, hkp⟩; have n0_ := Aside0.mk (blk_kept (by (with_reducible repeat (first | refine blk_drewN ?_ _ | refine blk_drew ?_ | refine blk_alloc ?_ _)); exact BK124.out) hkp (fun hs_ => Or.elim hs_ (fun e_ => (fun e_ => (Kd.R_away HO_6.out (fun _ hk => hk.1)) e_) e_) (fun e_ => (fun e_ => (Kd.R_away HO134.out (fun _ hk => hk.2)) e_) e_))); have n1_ := Aside0.mk (Kd.R_mono (ok' := fun k_ => k_ ≠ gb124) ho0 (fun k_ hk_ => Or.elim hk_ (fun hs_ => Or.elim hs_ (fun hs_ => fun e_ => (Kd.R_away HO_6.out (fun _ hk => hk.1)) (by rw [← e_]; exact hs_)) (fun hs_ => fun e_ => (Kd.R_away HO134.out (fun _ hk => hk.2)) (by rw [← e_]; exact hs_))) (fun hn_ => (Kd.freshB (g := gb124) (o := .cells #[.string ((rd_T128 l1 x14_1).f0), .int .i64 ((rd_T128 l1 x14_1).f1), .int .i64 ((rd_T128 l1 x14_1).f2)] 128 (0, 0)) (by (with_reducible repeat (first | refine blk_drewN ?_ _ | refine blk_drew ?_ | refine blk_alloc ?_ _)); exact BK124.out) k_ hn_)))); have n2_ := Aside0.mk (hb); clear BK124; clear HB; clear HO134; clear HO_6; have BK124 := n0_; have HO137 := n1_; have HB := n2_; clear n0_ n1_ n2_; (try clear hb); (try clear hkp); (try clear ho0))); try go_wp2_with (first | ((with_reducible refine gate_dst (N := 38) rfl ?_); refine Kd.R_lit k128 _ 128 ?hg (N := 38) ?hd (xs := ([(⟨((rd_T128 l1 x14_1).f0), ((rd_T128 l1 x14_1).f1), ((rd_T128 l1 x14_1).f2)⟩ : S128)] : List (S128))) (inner := [.string ((rd_T128 l1 x14_1).f0), .int .i64 ((rd_T128 l1 x14_1).f1), .int .i64 ((rd_T128 l1 x14_1).f2)]) (ok := fun _ => True) (okp := fun _ => True) ?hr ?hp (fun _ hk => hk) trivial (Below.refl _ _) (Nat.le_refl _) (by simp) ?_; (case hd => rfl); (case hg => rfl); (case hr => first | (go_simp; done) | (go_simp; rfl)); (case hp => exact (Reps.c3 (show Kd.M k128 _ _ _ (⟨((rd_T128 l1 x14_1).f0), ((rd_T128 l1 x14_1).f1), ((rd_T128 l1 x14_1).f2)⟩ : S128) [.string ((rd_T128 l1 x14_1).f0), .int .i64 ((rd_T128 l1 x14_1).f1), .int .i64 ((rd_T128 l1 x14_1).f2)] from (k128_mkM _ _ _ (⟨((rd_T128 l1 x14_1).f0), ((rd_T128 l1 x14_1).f1), ((rd_T128 l1 x14_1).f2)⟩ : S128) )) (Reps.none _ _))); intro v133 w25 ho26 hb hg_ hnew_; clear hg_ hnew_; (first | rw [← Ny132.out] at ho26 | (simp only [Int.reduceToNat] at ho26; rw [← Ny132.out] at ho26)); have n0_ := Aside0.mk (Kd.R_elder' (by (with_reducible repeat (first | apply Kd.R_alloc | apply Kd.R_drewN | apply Kd.R_drew)); exact HO_6.out) (Kd.R_base ho26) hb); have n1_ := Aside0.mk (Kd.R_lower (Kd.R_newB (Kd.R_new' ho26 (Kd.R_lt (by (with_reducible repeat (first | apply Kd.R_alloc | apply Kd.R_drewN | apply Kd.R_drew)); exact HO_6.out))) (g := gb124) (o := .cells #[.string ((rd_T128 l1 x14_1).f0), .int .i64 ((rd_T128 l1 x14_1).f1), .int .i64 ((rd_T128 l1 x14_1).f2)] 128 (0, 0)) (by (with_reducible repeat (first | refine blk_drewN ?_ _ | refine blk_drew ?_ | refine blk_alloc ?_ _)); exact BK124.out)) (below_size (by repeat (first | (with_reducible first | exact HB.out | apply below_alloc | apply pw_below_drewN | apply below_drew1 | refine below_set ?_ GE124.out) | exact HB.out)))); have n2_ := Aside0.mk (blk_below (g := gb124) (o := .cells #[.string ((rd_T128 l1 x14_1).f0), .int .i64 ((rd_T128 l1 x14_1).f1), .int .i64 ((rd_T128 l1 x14_1).f2)] 128 (0, 0)) (by (with_reducible repeat (first | refine blk_drewN ?_ _ | refine blk_drew ?_ | refine blk_alloc ?_ _)); exact BK124.out) hb); have n3_ := Aside0.mk (below_step (by repeat (first | (with_reducible first | exact HB.out | apply below_alloc | apply pw_below_drewN | apply below_drew1 | refine below_set ?_ GE124.out) | exact HB.out)) hb); clear HO_6; clear BK124; clear HB; have HO_6 := n0_; have HO134 := n1_; have BK124 := n2_; have HB := n3_; clear n0_ n1_ n2_ n3_; clear hb ho26; obtain ⟨Ao27, co27, eo27⟩ := Kd.R_slice HO134.out; subst eo27) | (go_at_call 157; (first | (with_reducible refine (slices_Insert_Posting.calls (fun k_ => some k_ = (.slice Ao10 x6_1.length co10 : Value).ownBlock) (.slice Ao10 x6_1.length co10) x6_1 x9_2 (fun k_ => some k_ = (.slice Ao27 y132.length co27 : Value).ownBlock) (.slice Ao27 y132.length co27) y132 t135 w _ ?side1 ?side2 ?side3 ?side4 ?side5 A23.out).mono ?_) | ((try simp only [Go.IntWalk.i64_left]); (with_reducible refine (slices_Insert_Posting.calls (fun k_ => some k_ = (.slice Ao10 x6_1.length co10 : Value).ownBlock) (.slice Ao10 x6_1.length co10) x6_1 x9_2 (fun k_ => some k_ = (.slice Ao27 y132.length co27 : Value).ownBlock) (.slice Ao27 y132.length co27) y132 t135 w _ ?side1 ?side2 ?side3 ?side4 ?side5 A23.out).mono ?_))); (case side1 => repeat (first | (with_reducible first | exact HB.out | apply below_alloc | apply pw_below_drewN | apply below_drew1 | refine below_set ?_ GE124.out) | exact HB.out)); (case side2 => exact Kd.R_tight rfl HO_6.out); (case side3 => exact fun k_ e_ => (HO_6.out.1 k_ e_.symm).2); (case side4 => exact Kd.R_tight rfl HO134.out); (case side5 => exact fun k_ e_ => (HO134.out.1 k_ e_.symm).1.2); rintro e w28 ⟨v136, rfl, ho0, hb, hkp⟩; have n0_ := Aside0.mk (blk_kept (by (with_reducible repeat (first | refine blk_drewN ?_ _ | refine blk_drew ?_ | refine blk_alloc ?_ _)); exact BK124.out) hkp (fun hs_ => Or.elim hs_ (fun e_ => (fun e_ => (Kd.R_away HO_6.out (fun _ hk => hk.1)) e_) e_) (fun e_ => (fun e_ => (Kd.R_away HO134.out (fun _ hk => hk.2)) e_) e_))); have n1_ := Aside0.mk (Kd.R_mono (ok' := fun k_ => k_ ≠ gb124) ho0 (fun k_ hk_ => Or.elim hk_ (fun hs_ => Or.elim hs_ (fun hs_ => fun e_ => (Kd.R_away HO_6.out (fun _ hk => hk.1)) (by rw [← e_]; exact hs_)) (fun hs_ => fun e_ => (Kd.R_away HO134.out (fun _ hk => hk.2)) (by rw [← e_]; exact hs_))) (fun hn_ => (Kd.freshB (g := gb124) (o := .cells #[.string ((rd_T128 l1 x14_1).f0), .int .i64 ((rd_T128 l1 x14_1).f1), .int .i64 ((rd_T128 l1 x14_1).f2)] 128 (0, 0)) (by (with_reducible repeat (first | refine blk_drewN ?_ _ | refine blk_drew ?_ | refine blk_alloc ?_ _)); exact BK124.out) k_ hn_)))); have n2_ := Aside0.mk (hb); clear BK124; clear HB; clear HO134; clear HO_6; have BK124 := n0_; have HO137 := n1_; have HB := n2_; clear n0_ n1_ n2_; (try clear hb); (try clear hkp); (try clear ho0))))
                  go_roundg k2
                  case measure => have := HK1.out; have := HK2.out; omega
                  case rel => exact ⟨(t135), (wrap64 (x14_1 + 1)), (by first | rfl | (simp; done) | (simp [*]; done)), H', ⟨by have := HK1.out; have := HK2.out; omega⟩, ⟨by (with_reducible repeat (first | apply Kd.R_alloc | apply Kd.R_drewN | apply Kd.R_drew)); exact Kd.R_mono HO137.out (fun _ hk => trivial)⟩, ⟨by repeat (first | (with_reducible first | exact HB.out | apply below_alloc | apply pw_below_drewN | apply below_drew1 | refine below_set ?_ GE124.out) | exact HB.out)⟩⟩
          · rw [if_neg c7] at H
            exact absurd H (by simp)
        · rw [if_neg c6] at H
          exact absurd H (by simp)
      · rw [if_neg c5] at H
        have c5b0 : decide (x14_1 < (l1.length : Int)) = false := decide_eq_false c5
        clear c5
        by_cases c29 : (x6_1.length : Int) > 32
        · rw [if_pos c29] at H
          have c29b0 : decide (32 < (x6_1.length : Int)) = true := decide_eq_true c29
          have c29b1 : decide (32 < x6_1.length) = true := decide_eq_true (by omega)
          clear c29
          simp only [Option.some.injEq, Prod.mk.injEq] at H
          obtain ⟨rfl, rfl⟩ := H
          obtain ⟨Ao30, co30, eo30⟩ := Kd.R_slice HO_6.out
          subst eo30
          go_wp2
          repeat (go_quiet (fail); try go_wp2)
          go_ret2
          exact ⟨_, by first | rfl | (simp [errW_none, errW_some] <;> rfl) | (simp [*, errW_none, errW_some] <;> rfl), by first | exact Kd.R_nil _ _ _ _ _ | exact Kd.N_nil _ _ _ _ _ | exact Kd.V_nil _ _ _ _ _ | exact Kd.Q_nil _ _ _ _ _ | exact Kd.S_nil _ _ _ _ _, by repeat (first | (with_reducible first | exact HB.out | apply below_alloc | apply pw_below_drewN | apply below_drew1) | exact HB.out)⟩
        · rw [if_neg c29] at H
          have c29b0 : decide (32 < (x6_1.length : Int)) = false := decide_eq_false c29
          have c29b1 : decide (32 < x6_1.length) = false := decide_eq_false (by omega)
          clear c29
          simp only [Option.some.injEq, Prod.mk.injEq] at H
          obtain ⟨rfl, rfl⟩ := H
          obtain ⟨Ao31, co31, eo31⟩ := Kd.R_slice HO_6.out
          subst eo31
          go_wp2
          repeat (go_quiet (fail); try go_wp2)
          go_ret2
          exact ⟨_, by first | rfl | (simp [errW_none, errW_some] <;> rfl) | (simp [*, errW_none, errW_some] <;> rfl), by (with_reducible repeat (first | apply Kd.R_alloc | apply Kd.R_drewN | apply Kd.R_drew)); exact HO_6.out, by repeat (first | (with_reducible first | exact HB.out | apply below_alloc | apply pw_below_drewN | apply below_drew1) | exact HB.out)⟩

/-! ### impl_MergePostings: function 37 -/
def impl_MergePostings.f (k : Nat) (l0 : List (S128)) (l1 : List (S128)) : Option ((List (S128)) × Int) := (impl_ValidPostings.f k l0).bind fun t138 => (if t138 = true then ((impl_ValidPostings.f k l1).bind fun t139 => (if t139 = true then ((impl_withPostings.f k l0 l1).bind fun bt140 => (some (bt140.1, bt140.2))) else (some (([] : List (S128)), 1)))) else (some (([] : List (S128)), 1)))
theorem impl_MergePostings.mono : ∀ a0 a1 k, LeO (impl_MergePostings.f k a0 a1) (impl_MergePostings.f (k + 1) a0 a1) := by
  intro a0 a1 k
  unfold impl_MergePostings.f
  repeat' first
      | (with_reducible exact impl_ValidPostings.mono _ _)
      | (with_reducible exact impl_withPostings.mono _ _ _)
      | (with_reducible exact LeO.refl _)
      | (with_reducible exact LeO.none _)
      | (with_reducible refine LeO.ite ?_ ?_)
      | (with_reducible refine LeO.bind ?_ (fun _ => ?_))
      | exact impl_ValidPostings.mono _ _
      | exact impl_withPostings.mono _ _ _
      | exact LeO.none _
      | refine LeO.ite ?_ ?_
      | refine LeO.bind ?_ (fun _ => ?_)
set_option maxHeartbeats 8000000 in
set_option maxRecDepth 100000 in
theorem impl_MergePostings.calls (k : Nat) (A0 : Option Addr) (c0 : Nat) (l0 : List (S128)) (A1 : Option Addr) (c1 : Nat) (l1 : List (S128)) (r1 : List (S128)) (r2 : Int) (w : World) (hr0 : Kd.C k128 w A0 l0.length l0) (hc0 : l0.length ≤ c0) (hr1 : Kd.C k128 w A1 l1.length l1) (hc1 : l1.length ≤ c1) (h : impl_MergePostings.f k l0 l1 = some (r1, r2)) :
    Calls Try.prog 37 #[.slice A0 l0.length c0, .slice A1 l1.length c1] w fun e w' => ∃ v0_ : Value, e = .returned (.tuple #[v0_, .int .i64 r2]) ∧ Kd.R k128 128 w' w.heap.size (fun _ => True) v0_ r1 ∧ Below w.heap.size w w' := by
  have HR0 := Aside0.mk hr0
  have HC0 := Aside0.mk hc0
  clear hr0 hc0
  have HR1 := Aside0.mk hr1
  have HC1 := Aside0.mk hc1
  clear hr1 hc1
  have HB := Aside0.mk (Below.refl w.heap.size w)
  have H : ((impl_ValidPostings.f k l0).bind fun t138 => (if t138 = true then ((impl_ValidPostings.f k l1).bind fun t139 => (if t139 = true then ((impl_withPostings.f k l0 l1).bind fun bt140 => (some (bt140.1, bt140.2))) else (some (([] : List (S128)), 1)))) else (some (([] : List (S128)), 1)))) = some (r1, r2) := h
  clear h
  replace H := Option.bind_eq_some_iff.mp H
  obtain ⟨t138, A30, H⟩ := H
  replace H : (if t138 = true then ((impl_ValidPostings.f k l1).bind fun t139 => (if t139 = true then ((impl_withPostings.f k l0 l1).bind fun bt140 => (some (bt140.1, bt140.2))) else (some (([] : List (S128)), 1)))) else (some (([] : List (S128)), 1))) = some (r1, r2) := H
  have A3 := Aside0.mk A30
  clear A30
  by_cases c4 : t138 = true
  · subst c4
    have H1 : ((impl_ValidPostings.f k l1).bind fun t139 => (if t139 = true then ((impl_withPostings.f k l0 l1).bind fun bt140 => (some (bt140.1, bt140.2))) else (some (([] : List (S128)), 1)))) = some (r1, r2) := by rw [if_pos rfl] at H; exact H
    clear H
    have H := H1
    clear H1
    replace H := Option.bind_eq_some_iff.mp H
    obtain ⟨t139, A50, H⟩ := H
    replace H : (if t139 = true then ((impl_withPostings.f k l0 l1).bind fun bt140 => (some (bt140.1, bt140.2))) else (some (([] : List (S128)), 1))) = some (r1, r2) := H
    have A5 := Aside0.mk A50
    clear A50
    by_cases c6 : t139 = true
    · subst c6
      have H1 : ((impl_withPostings.f k l0 l1).bind fun bt140 => (some (bt140.1, bt140.2))) = some (r1, r2) := by rw [if_pos rfl] at H; exact H
      clear H
      have H := H1
      clear H1
      replace H := Option.bind_eq_some_iff.mp H
      obtain ⟨⟨t140, t141⟩, A70, H⟩ := H
      replace H : (some (t140, t141)) = some (r1, r2) := H
      have A7 := Aside0.mk A70
      clear A70
      simp only [Option.some.injEq, Prod.mk.injEq] at H
      obtain ⟨rfl, rfl⟩ := H
      go_enter Try.func37, Try.ntmps37
      go_wp2_with (first | ((with_reducible refine gate_callee (f := 102) rfl ?_); refine goesL_ (some 7) rfl rfl Try.func102 (by kernel_rfl) rfl #[.slice A0 l0.length c0] rfl (by (try simp only [List.map_toArray, List.map_cons, List.map_nil]); first | done | rfl | (simp only [List.length_drop, List.length_take]; rfl)) ?_; (with_reducible refine (impl_ValidPostings.calls k _ _ l0 true _ ?side1 ?side2 A3.out).mono ?_); (case side1 => repeat (first | exact HR0.out | (with_reducible refine Kd.C_alloc ?_ _) | (with_reducible refine Kd.C_drewN ?_ _) | (with_reducible refine Kd.C_drew ?_))); (case side2 => exact HC0.out); rintro e w8 ⟨rfl, hb⟩; refine ⟨_, rfl, ?_⟩; have n0_ := Aside0.mk (below_step (by repeat (first | (with_reducible first | exact HB.out | apply below_alloc | apply pw_below_drewN | apply below_drew1) | exact HB.out)) hb); clear HB; have HB := n0_; clear n0_; (try clear hb); (try clear hb2); (try clear hk); (try clear hi)) | (go_at_call 102; (first | (with_reducible refine (impl_ValidPostings.calls k _ _ l1 true _ ?side1 ?side2 A5.out).mono ?_) | ((try simp only [Go.IntWalk.i64_left]); (with_reducible refine (impl_ValidPostings.calls k _ _ l1 true _ ?side1 ?side2 A5.out).mono ?_))); (case side1 => repeat (first | exact (Kd.C_below HR1.out HB.out) | (with_reducible refine Kd.C_alloc ?_ _) | (with_reducible refine Kd.C_drewN ?_ _) | (with_reducible refine Kd.C_drew ?_))); (case side2 => exact HC1.out); rintro e w9 ⟨rfl, hb⟩; have n0_ := Aside0.mk (below_step (by repeat (first | (with_reducible first | exact HB.out | apply below_alloc | apply pw_below_drewN | apply below_drew1) | exact HB.out)) hb); clear HB; have HB := n0_; clear n0_; (try clear hb); (try clear hb2); (try clear hk); (try clear hi)) | ((with_reducible refine gate_callee (f := 103) rfl ?_); refine goesL_ (some 16) rfl rfl Try.func103 (by kernel_rfl) rfl #[.slice A0 l0.length c0, .slice A1 l1.length c1] rfl (by (try simp only [List.map_toArray, List.map_cons, List.map_nil]); first | done | rfl | (simp only [List.length_drop, List.length_take]; rfl)) ?_; (with_reducible refine (impl_withPostings.calls k _ _ l0 _ _ l1 t140 t141 _ ?side1 ?side2 ?side3 ?side4 A7.out).mono ?_); (case side1 => repeat (first | exact (Kd.C_below HR0.out HB.out) | (with_reducible refine Kd.C_alloc ?_ _) | (with_reducible refine Kd.C_drewN ?_ _) | (with_reducible refine Kd.C_drew ?_))); (case side2 => exact HC0.out); (case side3 => repeat (first | exact (Kd.C_below HR1.out HB.out) | (with_reducible refine Kd.C_alloc ?_ _) | (with_reducible refine Kd.C_drewN ?_ _) | (with_reducible refine Kd.C_drew ?_))); (case side4 => exact HC1.out); rintro e w10 ⟨v142, rfl, ho0, hb⟩; refine ⟨_, rfl, ?_⟩; have n0_ := Aside0.mk (Kd.R_lower ho0 (below_size (by repeat (first | (with_reducible first | exact HB.out | apply below_alloc | apply pw_below_drewN | apply below_drew1) | exact HB.out)))); have n1_ := Aside0.mk (below_step (by repeat (first | (with_reducible first | exact HB.out | apply below_alloc | apply pw_below_drewN | apply below_drew1) | exact HB.out)) hb); clear HB; have HO143 := n0_; have HB := n1_; clear n0_ n1_; (try clear hb); (try clear hb2); (try clear hk); (try clear hi); (try clear ho0)))
      go_ret2
      exact ⟨_, by first | rfl | (simp [errW_none, errW_some] <;> rfl) | (simp [*, errW_none, errW_some] <;> rfl), by (with_reducible repeat (first | apply Kd.R_alloc | apply Kd.R_drewN | apply Kd.R_drew)); exact HO143.out, by repeat (first | (with_reducible first | exact HB.out | apply below_alloc | apply pw_below_drewN | apply below_drew1) | exact HB.out)⟩
    · replace c6 := Bool.eq_false_iff.mpr c6
      subst c6
      have H1 : (some (([] : List (S128)), 1)) = some (r1, r2) := by rw [if_neg (show ¬ (false = true) by decide)] at H; exact H
      clear H
      have H := H1
      clear H1
      simp only [Option.some.injEq, Prod.mk.injEq] at H
      obtain ⟨rfl, rfl⟩ := H
      go_enter Try.func37, Try.ntmps37
      go_wp2_with (first | ((with_reducible refine gate_callee (f := 102) rfl ?_); refine goesL_ (some 7) rfl rfl Try.func102 (by kernel_rfl) rfl #[.slice A0 l0.length c0] rfl (by (try simp only [List.map_toArray, List.map_cons, List.map_nil]); first | done | rfl | (simp only [List.length_drop, List.length_take]; rfl)) ?_; (with_reducible refine (impl_ValidPostings.calls k _ _ l0 true _ ?side1 ?side2 A3.out).mono ?_); (case side1 => repeat (first | exact HR0.out | (with_reducible refine Kd.C_alloc ?_ _) | (with_reducible refine Kd.C_drewN ?_ _) | (with_reducible refine Kd.C_drew ?_))); (case side2 => exact HC0.out); rintro e w11 ⟨rfl, hb⟩; refine ⟨_, rfl, ?_⟩; have n0_ := Aside0.mk (below_step (by repeat (first | (with_reducible first | exact HB.out | apply below_alloc | apply pw_below_drewN | apply below_drew1) | exact HB.out)) hb); clear HB; have HB := n0_; clear n0_; (try clear hb); (try clear hb2); (try clear hk); (try clear hi)) | (go_at_call 102; (first | (with_reducible refine (impl_ValidPostings.calls k _ _ l1 false _ ?side1 ?side2 A5.out).mono ?_) | ((try simp only [Go.IntWalk.i64_left]); (with_reducible refine (impl_ValidPostings.calls k _ _ l1 false _ ?side1 ?side2 A5.out).mono ?_))); (case side1 => repeat (first | exact (Kd.C_below HR1.out HB.out) | (with_reducible refine Kd.C_alloc ?_ _) | (with_reducible refine Kd.C_drewN ?_ _) | (with_reducible refine Kd.C_drew ?_))); (case side2 => exact HC1.out); rintro e w12 ⟨rfl, hb⟩; have n0_ := Aside0.mk (below_step (by repeat (first | (with_reducible first | exact HB.out | apply below_alloc | apply pw_below_drewN | apply below_drew1) | exact HB.out)) hb); clear HB; have HB := n0_; clear n0_; (try clear hb); (try clear hb2); (try clear hk); (try clear hi)))
      go_ret2
      exact ⟨_, by first | rfl | (simp [errW_none, errW_some] <;> rfl) | (simp [*, errW_none, errW_some] <;> rfl), by first | exact Kd.R_nil _ _ _ _ _ | exact Kd.N_nil _ _ _ _ _ | exact Kd.V_nil _ _ _ _ _ | exact Kd.Q_nil _ _ _ _ _ | exact Kd.S_nil _ _ _ _ _, by repeat (first | (with_reducible first | exact HB.out | apply below_alloc | apply pw_below_drewN | apply below_drew1) | exact HB.out)⟩
  · replace c4 := Bool.eq_false_iff.mpr c4
    subst c4
    have H1 : (some (([] : List (S128)), 1)) = some (r1, r2) := by rw [if_neg (show ¬ (false = true) by decide)] at H; exact H
    clear H
    have H := H1
    clear H1
    simp only [Option.some.injEq, Prod.mk.injEq] at H
    obtain ⟨rfl, rfl⟩ := H
    go_enter Try.func37, Try.ntmps37
    go_wp2_with (first | ((with_reducible refine gate_callee (f := 102) rfl ?_); refine goesL_ (some 7) rfl rfl Try.func102 (by kernel_rfl) rfl #[.slice A0 l0.length c0] rfl (by (try simp only [List.map_toArray, List.map_cons, List.map_nil]); first | done | rfl | (simp only [List.length_drop, List.length_take]; rfl)) ?_; (with_reducible refine (impl_ValidPostings.calls k _ _ l0 false _ ?side1 ?side2 A3.out).mono ?_); (case side1 => repeat (first | exact HR0.out | (with_reducible refine Kd.C_alloc ?_ _) | (with_reducible refine Kd.C_drewN ?_ _) | (with_reducible refine Kd.C_drew ?_))); (case side2 => exact HC0.out); rintro e w13 ⟨rfl, hb⟩; refine ⟨_, rfl, ?_⟩; have n0_ := Aside0.mk (below_step (by repeat (first | (with_reducible first | exact HB.out | apply below_alloc | apply pw_below_drewN | apply below_drew1) | exact HB.out)) hb); clear HB; have HB := n0_; clear n0_; (try clear hb); (try clear hb2); (try clear hk); (try clear hi)))
    go_ret2
    exact ⟨_, by first | rfl | (simp [errW_none, errW_some] <;> rfl) | (simp [*, errW_none, errW_some] <;> rfl), by first | exact Kd.R_nil _ _ _ _ _ | exact Kd.N_nil _ _ _ _ _ | exact Kd.V_nil _ _ _ _ _ | exact Kd.Q_nil _ _ _ _ _ | exact Kd.S_nil _ _ _ _ _, by repeat (first | (with_reducible first | exact HB.out | apply below_alloc | apply pw_below_drewN | apply below_drew1) | exact HB.out)⟩

/-! ### laws_r8Long: function 45 -/
def laws_r8Long.f (l0 : List Int) (l1 : List Int) : Option (Bool) := if (l0.length : Int) > 1048576 then (some true) else (some (decide ((l1.length : Int) > 1048576)))
set_option maxHeartbeats 8000000 in
set_option maxRecDepth 100000 in
theorem laws_r8Long.calls (A0 : Option Addr) (c0 : Nat) (l0 : List Int) (A1 : Option Addr) (c1 : Nat) (l1 : List Int) (r : Bool) (w : World) (hr0 : Kd.C (Kd.int .u8) w A0 l0.length l0) (hc0 : l0.length ≤ c0) (hr1 : Kd.C (Kd.int .u8) w A1 l1.length l1) (hc1 : l1.length ≤ c1) (h : laws_r8Long.f l0 l1 = some r) :
    Calls Try.prog 45 #[.slice A0 l0.length c0, .slice A1 l1.length c1] w fun e w' => e = .returned (.bool r) ∧ Drawn0 w w' := by
  have HR0 := Aside0.mk hr0
  have HC0 := Aside0.mk hc0
  clear hr0 hc0
  have HR1 := Aside0.mk hr1
  have HC1 := Aside0.mk hc1
  clear hr1 hc1
  have H : (if (l0.length : Int) > 1048576 then (some true) else (some (decide ((l1.length : Int) > 1048576)))) = some r := h
  clear h
  by_cases c3 : (l0.length : Int) > 1048576
  · rw [if_pos c3] at H
    have c3b0 : decide (1048576 < (l0.length : Int)) = true := decide_eq_true c3
    have c3b1 : decide (1048576 < l0.length) = true := decide_eq_true (by omega)
    clear c3
    obtain rfl := Option.some.inj H
    go_enter Try.func45, Try.ntmps45
    go_wp2
    go_ret
    exact ⟨by first | rfl | (simp; done) | (simp [*]; done), by repeat (first | exact Drawn0.refl _ | apply Drawn0.step)⟩
  · rw [if_neg c3] at H
    have c3b0 : decide (1048576 < (l0.length : Int)) = false := decide_eq_false c3
    have c3b1 : decide (1048576 < l0.length) = false := decide_eq_false (by omega)
    clear c3
    obtain rfl := Option.some.inj H
    go_enter Try.func45, Try.ntmps45
    go_wp2
    go_ret
    exact ⟨by first | rfl | (simp; done) | (simp [*]; done), by repeat (first | exact Drawn0.refl _ | apply Drawn0.step)⟩

end Go.Proofs.Ytnmdljdkbpgdaaa.QInterest
